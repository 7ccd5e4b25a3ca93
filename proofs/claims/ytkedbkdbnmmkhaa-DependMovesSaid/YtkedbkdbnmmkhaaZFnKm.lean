/- Trees: the law DependTrees. -/
import Derived.Test.YtkedbkdbnmmkhaaZFnKl
set_option linter.unusedVariables false
set_option linter.unusedSimpArgs false
namespace Go.Proofs.Ytkedbkdbnmmkhaa.Ev
open Go Go.Proofs

/-- A frame without open nodes, with one root. -/
def openB (l : List Hung) : Bool := l.any fun h => decide (h.2.1 = -2)
def wholeB (l : List Hung) : Bool := !openB l && (decide (cntF l = 1) || decide (l.length = 0))
/-- ablaut/depend.whole: 1 parameters, 0 captured -/
def s52 : SC := .seq (.reg [o1 2 (.mv (cB false))])
  (.seq (.reg [o1 3 (.mv (cI 0))])
   (.seq (.seq (.reg [o1 6 (.mv (.t 0)),
      o1 7 (.lenL (.t 6)),
      o1 8 (.mv (cI 0))])
     (.block 0 (.loop (.seq (.reg [o1 9 (.bin .lss (.t 8) (.t 7))])
        (.seq (.cond (.t 9) (.skip) (.exit 0))
         (.seq (.block 1 (.seq (.reg [o1 10 (.iaddr 3 (.t 6) (.t 8)),
             o1 11 (.load (some 3) (.t 10)),
             o1 5 (.alloc 34 3 [(.slice none 0 0), (.int .i64 0), (.string ⟨#[]⟩)]),
             o0 (.store 3 (.t 5) (.t 11))])
            (.seq (.seq (.reg [o1 12 (.faddr 1 (.t 5)),
               o1 13 (.load none (.t 12)),
               o1 14 (.bin .eql (.t 13) (cI (-2)))])
              (.cond (.t 14) (.seq (.reg [o1 2 (.mv (cB false))])
                (.ret)) (.skip)))
             (.seq (.reg [o1 15 (.faddr 1 (.t 5)),
               o1 16 (.load none (.t 15)),
               o1 17 (.bin .eql (.t 16) (cI (-1)))])
              (.cond (.t 17) (.reg [o1 18 (.mv (.t 3)),
                o1 19 (.bin .add (.t 18) (cI 1)),
                o1 3 (.mv (.t 19))]) (.skip))))))
          (.reg [o1 20 (.bin .add (.t 8) (cI 1)),
           o1 8 (.mv (.t 20))])))))))
    (.seq (.reg [o1 21 (.mv (.t 3)),
      o1 22 (.bin .eql (.t 21) (cI 1)),
      o1 23 (.mv (.t 22)),
      oF 24 (.mv (.t 0)) 23,
      oF 25 (.lenL (.t 24)) 23,
      oF 26 (.bin .eql (.t 25) (cI 0)) 23,
      o1 27 (.pick (.t 23) (cB true) (.t 26)),
      o1 2 (.mv (.t 27))])
     (.ret))))
theorem s52_ok : lookF Try.prog 52 = some (s52, 28, [.tmp 2]) := by kernel_rfl
theorem whole_ok (l : List Hung) (hl : l.length ≤ 100000) : Fn P 52 [sl l] (boolA (wholeB l)) := by
  (refine fn_look s52_ok (by simp) (by intro k; simp only [go_sem, Nat.reduceEqDiff, ↓reduceIte, reduceCtorEq, Nat.reduceAdd, Nat.reduceMul, Int.reduceToNat, List.reduceReplicate, Nat.reduceLeDiff, Nat.reduceLT, Int.reduceLT, Int.reduceLE, Int.reduceEq]) fun S hS => cwp_sound _ _ _ _ ?_; simp (disch := omega) only [s52, go_sem, Nat.reduceEqDiff, ↓reduceIte, reduceCtorEq, Nat.reduceAdd, Nat.reduceMul, Int.reduceToNat, List.reduceReplicate, Nat.reduceLeDiff, Nat.reduceLT, Int.reduceLT, Int.reduceLE, Int.reduceEq])
  repeat' (first | with_reducible refine inw ?_ | simp (disch := omega) only [go_sem, Nat.reduceEqDiff, ↓reduceIte, reduceCtorEq, Nat.reduceAdd, Nat.reduceMul, Int.reduceToNat, List.reduceReplicate, Nat.reduceLeDiff, Nat.reduceLT, Int.reduceLT, Int.reduceLE, Int.reduceEq] | with_reducible refine giv_intro fun _h => ?_ | with_reducible refine alt_intro ?_ fun _h => ?_ | with_reducible refine pickD_nil ?_ | (with_reducible refine brc (fun _h => ?_) fun _h => ?_) <;> first | (exfalso; omega) | simp only [decide_eq_false _h] | simp only [(_h : (_ : Bool) = _)] | simp only [decide_eq_true _h] | skip)
  (refine loopC hS [0, 6, 7] (by simp only [go_sem, Nat.reduceEqDiff, ↓reduceIte, reduceCtorEq, Nat.reduceAdd, Nat.reduceMul, Int.reduceToNat, List.reduceReplicate, Nat.reduceLeDiff, Nat.reduceLT, Int.reduceLT, Int.reduceLE, Int.reduceEq]; try rfl) (fun (⟨i, c⟩ : Nat × Nat) => [(3, intA c), (8, intA i)]) (fun (⟨i, c⟩ : Nat × Nat) => []) (fun (⟨i, c⟩ : Nat × Nat) => i ≤ l.length ∧ c ≤ i ∧ cntF l = c + cntF (l.drop i) ∧ openB l = openB (l.drop i)) (fun (⟨i, c⟩ : Nat × Nat) => l.length - i) ((0, 0)) ?h03 ?hn3 ?rd3; case hn3 => (intro s; first | rfl | (rcases s with ⟨_, _⟩; rfl) | (rcases s with ⟨_, _, _⟩; rfl) | (rcases s with ⟨_, _, _, _⟩; rfl) | (rcases s with ⟨_, _, _, _, _⟩; rfl)))
  · simp (disch := omega) only [go_sem, Nat.reduceEqDiff, ↓reduceIte, reduceCtorEq, Nat.reduceAdd, Nat.reduceMul, Int.reduceToNat, List.reduceReplicate, Nat.reduceLeDiff, Nat.reduceLT, Int.reduceLT, Int.reduceLE, Int.reduceEq]; simp
  rintro ⟨i, c⟩ ⟨hi, hc, hC, hO⟩
  replace hi : i ≤ l.length := hi
  replace hc : c ≤ i := hc
  replace hC : cntF l = c + cntF (l.drop i) := hC
  replace hO : openB l = openB (l.drop i) := hO
  by_cases hil : i < l.length
  · rw [nth_drop hil, cntF] at hC
    rw [nth_drop hil] at hO
    have hO2 : openB l = (decide ((nth l i).2.1 = -2) || openB (l.drop (i + 1))) := hO
    repeat' (first | with_reducible refine inw ?_ | simp (disch := omega) only [go_sem, Nat.reduceEqDiff, ↓reduceIte, reduceCtorEq, Nat.reduceAdd, Nat.reduceMul, Int.reduceToNat, List.reduceReplicate, Nat.reduceLeDiff, Nat.reduceLT, Int.reduceLT, Int.reduceLE, Int.reduceEq] | with_reducible refine giv_intro fun _h => ?_ | with_reducible refine alt_intro ?_ fun _h => ?_ | with_reducible refine pickD_nil ?_ | (with_reducible refine brc (fun _h => ?_) fun _h => ?_) <;> first | (exfalso; omega) | simp only [decide_eq_false _h] | simp only [(_h : (_ : Bool) = _)] | simp only [decide_eq_true _h] | skip)
    · rw [wholeB, hO2, decide_eq_true _h]; rfl
    · rw [decide_eq_false (by assumption), Bool.false_or] at hO2
      rw [if_pos _h] at hC
      refine ⟨(i + 1, c + 1), ?_⟩
      dsimp only
      exact ⟨⟨by omega, by omega, by omega, by omega, hO2⟩, by omega, by omega⟩
    · rw [decide_eq_false (by assumption), Bool.false_or] at hO2
      rw [if_neg _h] at hC
      refine ⟨(i + 1, c), ?_⟩
      dsimp only
      exact ⟨⟨by omega, by omega, by omega, by omega, hO2⟩, rfl, by omega⟩
  · rw [List.drop_eq_nil_of_le (by omega)] at hC hO
    have hC2 : cntF l = c := hC
    have hO2 : openB l = false := hO
    rw [wholeB, hO2, hC2]
    repeat' (first | with_reducible refine inw ?_ | simp (disch := omega) only [go_sem, Nat.reduceEqDiff, ↓reduceIte, reduceCtorEq, Nat.reduceAdd, Nat.reduceMul, Int.reduceToNat, List.reduceReplicate, Nat.reduceLeDiff, Nat.reduceLT, Int.reduceLT, Int.reduceLE, Int.reduceEq] | with_reducible refine giv_intro fun _h => ?_ | with_reducible refine alt_intro ?_ fun _h => ?_ | with_reducible refine pickD_nil ?_ | (with_reducible refine brc (fun _h => ?_) fun _h => ?_) <;> first | (exfalso; omega) | simp only [decide_eq_false _h] | simp only [(_h : (_ : Bool) = _)] | simp only [decide_eq_true _h] | skip)
    · rw [decide_eq_true (p := c = 1) (by omega)]; rfl
    · rw [decide_eq_false (p := c = 1) (by omega), Bool.true_and, Bool.false_or, decide_eq_decide]
      omega
/-! ### hooks far too much -/
end Go.Proofs.Ytkedbkdbnmmkhaa.Ev

/- The law TallyAligns. -/
import Derived.Test.YtedbjmonfbpefaaZFnTl
import Derived.Test.YtedbjmonfbpefaaZFnTc
set_option linter.unusedVariables false
set_option linter.unusedSimpArgs false
namespace Go.Proofs.Ytedbjmonfbpefaa.Ev
open Go Go.Proofs Go.RowKit

/-- ablaut/ablautlaw27.TallyAligns: 3 parameters, 0 captured -/
def s6 : SC := .seq (.reg [o1 6 (.mv (cB false))])
  (.seq (.seq (.reg [o1 14 (.mv (.t 0)),
     o1 15 (.lenL (.t 14)),
     o1 16 (.bin .gtr (.t 15) (cI 400000)),
     o1 17 (.mv (.t 16)),
     oF 18 (.mv (.t 1)) 17,
     oF 19 (.lenL (.t 18)) 17,
     oF 20 (.bin .gtr (.t 19) (cI 400000)) 17,
     o1 21 (.pick (.t 17) (cB true) (.t 20))])
    (.cond (.t 21) (.seq (.reg [o1 22 (.call (.f 17) []),
       o1 6 (.mv (.t 22))])
      (.ret)) (.skip)))
   (.seq (.reg [o1 24 (.mv (.t 0)),
     o1 25 (.mv (.t 1)),
     o1 26 (.mv (.t 2)),
     o1 27 (.call (.f 27) [(.t 24), (.t 25), (.t 26)]),
     o1 23 (.mv (.t 27)),
     o1 28 (.ext (.t 23) 0),
     o1 29 (.ext (.t 23) 1),
     o1 30 (.ext (.t 23) 2),
     o1 7 (.mv (.t 28)),
     o1 8 (.mv (.t 29)),
     o1 9 (.mv (.t 30))])
    (.seq (.reg [o1 32 (.mv (.t 0)),
      o1 33 (.mv (.t 1)),
      o1 34 (.mv (.t 2)),
      o1 35 (.call (.f 28) [(.t 32), (.t 33), (.t 34)]),
      o1 31 (.mv (.t 35)),
      o1 36 (.ext (.t 31) 0),
      o1 37 (.ext (.t 31) 1),
      o1 38 (.ext (.t 31) 2),
      o1 10 (.mv (.t 36)),
      o1 11 (.mv (.t 37)),
      o1 12 (.mv (.t 38))])
     (.seq (.seq (.reg [o1 39 (.mv (.t 7)),
        o1 40 (.lenL (.t 39)),
        o1 41 (.mv (.t 10)),
        o1 42 (.lenL (.t 41)),
        o1 43 (.bin .neq (.t 40) (.t 42)),
        o1 44 (.mv (.t 43)),
        oF 45 (.mv (.t 8)) 44,
        oF 46 (.mv (.t 11)) 44,
        oF 47 (.bin .neq (.t 45) (.t 46)) 44,
        o1 48 (.pick (.t 44) (cB true) (.t 47)),
        o1 49 (.mv (.t 48)),
        oF 50 (.mv (.t 9)) 49,
        oF 51 (.mv (.t 12)) 49,
        oF 52 (.bin .neq (.t 50) (.t 51)) 49,
        o1 53 (.pick (.t 49) (cB true) (.t 52))])
       (.cond (.t 53) (.seq (.reg [o1 6 (.mv (cB false))])
         (.ret)) (.skip)))
      (.seq (.seq (.reg [o1 13 (.mv (cI 0))])
        (.block 0 (.loop (.seq (.seq (.reg [o1 54 (.mv (.t 13)),
             o1 55 (.mv (.t 7)),
             o1 56 (.lenL (.t 55)),
             o1 57 (.bin .lss (.t 54) (.t 56))])
            (.cond (.t 57) (.skip) (.exit 0)))
           (.seq (.block 1 (.seq (.regD [o1 60 (.mv (.t 7)),
               o1 61 (.mv (.t 13)),
               o1 62 (.iaddr 2 (.t 60) (.t 61)),
               o1 63 (.load (some 2) (.t 62)),
               o1 64 (.mv (.t 10)),
               o1 65 (.mv (.t 13)),
               o1 66 (.iaddr 2 (.t 64) (.t 65)),
               o1 67 (.load (some 2) (.t 66)),
               o1 68 (.eqS true [((.int .i64), 0), ((.int .i64), 1)] (.t 63) (.t 67))])
              (.cond (.t 68) (.seq (.reg [o1 6 (.mv (cB false))])
                (.ret)) (.skip))))
            (.reg [o1 58 (.mv (.t 13)),
             o1 59 (.bin .add (.t 58) (cI 1)),
             o1 13 (.mv (.t 59))]))))))
       (.seq (.reg [o1 69 (.call (.f 17) []),
         o1 6 (.mv (.t 69))])
        (.ret)))))))
theorem s6_ok : lookF Try.prog 6 = some (s6, 70, [.tmp 6]) := by kernel_rfl
set_option maxRecDepth 10000 in
theorem TallyAligns_ok (a b : List Int) (s : Int) : Fn P 6 [sl a, sl b, intA s] (boolA true) := by
  have c1 := Align_ok a b s
  have c2 := rAlign_ok a b s
  generalize alT a b s = r at *
  obtain ⟨⟨x, n⟩, e⟩ := r
  (refine fn_look s6_ok (by simp) (by intro k; simp only [go_sem, Nat.reduceEqDiff, ↓reduceIte, reduceCtorEq, Nat.reduceAdd, Nat.reduceMul, Int.reduceToNat, List.reduceReplicate, Nat.reduceLeDiff, Nat.reduceLT, Int.reduceLT, Int.reduceLE, Int.reduceEq]) fun S hS => cwp_sound _ _ _ _ ?_; simp (maxSteps := 900000) (disch := omega) only [s6, go_sem, Nat.reduceEqDiff, ↓reduceIte, reduceCtorEq, Nat.reduceAdd, Nat.reduceMul, Int.reduceToNat, List.reduceReplicate, Nat.reduceLeDiff, Nat.reduceLT, Int.reduceLT, Int.reduceLE, Int.reduceEq])
  repeat' (first | with_reducible refine inw ?_ | simp (maxSteps := 900000) (disch := omega) only [go_sem, Nat.reduceEqDiff, ↓reduceIte, reduceCtorEq, Nat.reduceAdd, Nat.reduceMul, Int.reduceToNat, List.reduceReplicate, Nat.reduceLeDiff, Nat.reduceLT, Int.reduceLT, Int.reduceLE, Int.reduceEq] | (with_reducible apply call (c1)); (focus simp (maxSteps := 900000) (disch := omega) only [go_sem, Nat.reduceEqDiff, ↓reduceIte, reduceCtorEq, Nat.reduceAdd, Nat.reduceMul, Int.reduceToNat, List.reduceReplicate, Nat.reduceLeDiff, Nat.reduceLT, Int.reduceLT, Int.reduceLE, Int.reduceEq] <;> rfl) | (with_reducible apply call (c2)); (focus simp (maxSteps := 900000) (disch := omega) only [go_sem, Nat.reduceEqDiff, ↓reduceIte, reduceCtorEq, Nat.reduceAdd, Nat.reduceMul, Int.reduceToNat, List.reduceReplicate, Nat.reduceLeDiff, Nat.reduceLT, Int.reduceLT, Int.reduceLE, Int.reduceEq] <;> rfl) | (with_reducible apply call (known_ok)); (focus simp (maxSteps := 900000) (disch := omega) only [go_sem, Nat.reduceEqDiff, ↓reduceIte, reduceCtorEq, Nat.reduceAdd, Nat.reduceMul, Int.reduceToNat, List.reduceReplicate, Nat.reduceLeDiff, Nat.reduceLT, Int.reduceLT, Int.reduceLE, Int.reduceEq] <;> rfl) | with_reducible refine giv_intro fun _h => ?_ | with_reducible refine alt_intro ?_ fun _h => ?_ | with_reducible refine pickD_nil ?_ | (with_reducible refine brc (fun _h => ?_) fun _h => ?_) <;> first | (exfalso; omega) | simp only [decide_eq_false _h] | simp only [(_h : (_ : Bool) = _)] | simp only [decide_eq_true _h] | skip)
  (refine loopC hS [7, 10] (by simp only [go_sem, Nat.reduceEqDiff, ↓reduceIte, reduceCtorEq, Nat.reduceAdd, Nat.reduceMul, Int.reduceToNat, List.reduceReplicate, Nat.reduceLeDiff, Nat.reduceLT, Int.reduceLT, Int.reduceLE, Int.reduceEq]; try rfl) (fun (i : Nat) => [(13, intA i)]) (fun (i : Nat) => []) (fun (i : Nat) => i ≤ x.length) (fun (i : Nat) => x.length - i) (0) ?_ (by intro s; first | rfl | (rcases s with ⟨_, _⟩; rfl) | (rcases s with ⟨_, _, _⟩; rfl) | (rcases s with ⟨_, _, _, _⟩; rfl) | (rcases s with ⟨_, _, _, _, _⟩; rfl)) ?_)
  · simp (maxSteps := 900000) (disch := omega) only [go_sem, Nat.reduceEqDiff, ↓reduceIte, reduceCtorEq, Nat.reduceAdd, Nat.reduceMul, Int.reduceToNat, List.reduceReplicate, Nat.reduceLeDiff, Nat.reduceLT, Int.reduceLT, Int.reduceLE, Int.reduceEq]; exact Nat.zero_le _
  rintro i hi
  replace hi : i ≤ x.length := hi
  by_cases hix : i < x.length
  · repeat' (first | with_reducible refine inw ?_ | simp (maxSteps := 900000) (disch := omega) only [go_sem, Nat.reduceEqDiff, ↓reduceIte, reduceCtorEq, Nat.reduceAdd, Nat.reduceMul, Int.reduceToNat, List.reduceReplicate, Nat.reduceLeDiff, Nat.reduceLT, Int.reduceLT, Int.reduceLE, Int.reduceEq] | (with_reducible apply call (known_ok)); (focus simp (maxSteps := 900000) (disch := omega) only [go_sem, Nat.reduceEqDiff, ↓reduceIte, reduceCtorEq, Nat.reduceAdd, Nat.reduceMul, Int.reduceToNat, List.reduceReplicate, Nat.reduceLeDiff, Nat.reduceLT, Int.reduceLT, Int.reduceLE, Int.reduceEq] <;> rfl) | with_reducible refine giv_intro fun _h => ?_ | with_reducible refine alt_intro ?_ fun _h => ?_ | with_reducible refine pickD_nil ?_ | (with_reducible refine brc (fun _h => ?_) fun _h => ?_) <;> first | (exfalso; omega) | simp only [decide_eq_false _h] | simp only [(_h : (_ : Bool) = _)] | simp only [decide_eq_true _h] | skip)
    all_goals exact ⟨i + 1, ⟨by omega, by omega⟩, by omega⟩
  · repeat' (first | with_reducible refine inw ?_ | simp (maxSteps := 900000) (disch := omega) only [go_sem, Nat.reduceEqDiff, ↓reduceIte, reduceCtorEq, Nat.reduceAdd, Nat.reduceMul, Int.reduceToNat, List.reduceReplicate, Nat.reduceLeDiff, Nat.reduceLT, Int.reduceLT, Int.reduceLE, Int.reduceEq] | (with_reducible apply call (known_ok)); (focus simp (maxSteps := 900000) (disch := omega) only [go_sem, Nat.reduceEqDiff, ↓reduceIte, reduceCtorEq, Nat.reduceAdd, Nat.reduceMul, Int.reduceToNat, List.reduceReplicate, Nat.reduceLeDiff, Nat.reduceLT, Int.reduceLT, Int.reduceLE, Int.reduceEq] <;> rfl) | with_reducible refine giv_intro fun _h => ?_ | with_reducible refine alt_intro ?_ fun _h => ?_ | with_reducible refine pickD_nil ?_ | (with_reducible refine brc (fun _h => ?_) fun _h => ?_) <;> first | (exfalso; omega) | simp only [decide_eq_false _h] | simp only [(_h : (_ : Bool) = _)] | simp only [decide_eq_true _h] | skip)
end Go.Proofs.Ytedbjmonfbpefaa.Ev

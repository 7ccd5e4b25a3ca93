/- Four laws: LearnValidates, LearnGains, LearnApplies, LearnRuns. -/
import Derived.Test.YtapgimibdamjoaaZFnNt
set_option linter.unusedVariables false
set_option linter.unusedSimpArgs false
namespace Go.Proofs.Ytapgimibdamjoaa.Ev
open Go Go.Proofs Go.RowKit

/-- ablaut/ablautlaw22.sameTexts: 2 parameters, 0 captured -/
def s29 : SC := .seq (.reg [o1 4 (.mv (cB false))])
  (.seq (.seq (.reg [o1 6 (.mv (.t 0)),
     o1 7 (.lenL (.t 6)),
     o1 8 (.mv (.t 1)),
     o1 9 (.lenL (.t 8)),
     o1 10 (.bin .neq (.t 7) (.t 9))])
    (.cond (.t 10) (.seq (.reg [o1 4 (.mv (cB false))])
      (.ret)) (.skip)))
   (.seq (.seq (.reg [o1 5 (.mv (cI 0))])
     (.block 0 (.loop (.seq (.seq (.reg [o1 11 (.mv (.t 5)),
          o1 12 (.mv (.t 0)),
          o1 13 (.lenL (.t 12)),
          o1 14 (.bin .lss (.t 11) (.t 13))])
         (.cond (.t 14) (.skip) (.exit 0)))
        (.seq (.block 1 (.seq (.regD [o1 17 (.mv (.t 0)),
            o1 18 (.mv (.t 5)),
            o1 19 (.iaddr 1 (.t 17) (.t 18)),
            o1 20 (.load none (.t 19)),
            o1 21 (.mv (.t 1)),
            o1 22 (.mv (.t 5)),
            o1 23 (.iaddr 1 (.t 21) (.t 22)),
            o1 24 (.load none (.t 23)),
            o1 25 (.bin .neq (.t 20) (.t 24))])
           (.cond (.t 25) (.seq (.reg [o1 4 (.mv (cB false))])
             (.ret)) (.skip))))
         (.reg [o1 15 (.mv (.t 5)),
          o1 16 (.bin .add (.t 15) (cI 1)),
          o1 5 (.mv (.t 16))]))))))
    (.seq (.reg [o1 4 (.mv (cB true))])
     (.ret))))
theorem s29_ok : lookF Try.prog 29 = some (s29, 26, [.tmp 4]) := by kernel_rfl
theorem sameTexts_ok (l : List Str) : Fn P 29 [sl l, sl l] (boolA true) := by
  (refine fn_look s29_ok (by simp) (by intro k; simp only [go_sem, Nat.reduceEqDiff, ↓reduceIte, reduceCtorEq, Nat.reduceAdd, Nat.reduceMul, Int.reduceToNat, List.reduceReplicate, Nat.reduceLeDiff, Nat.reduceLT, Int.reduceLT, Int.reduceLE, Int.reduceEq]) fun S hS => cwp_sound _ _ _ _ ?_; simp (maxSteps := 900000) (disch := omega) only [s29, go_sem, Nat.reduceEqDiff, ↓reduceIte, reduceCtorEq, Nat.reduceAdd, Nat.reduceMul, Int.reduceToNat, List.reduceReplicate, Nat.reduceLeDiff, Nat.reduceLT, Int.reduceLT, Int.reduceLE, Int.reduceEq])
  repeat' (first | with_reducible refine inw ?_ | simp (maxSteps := 900000) (disch := omega) only [go_sem, Nat.reduceEqDiff, ↓reduceIte, reduceCtorEq, Nat.reduceAdd, Nat.reduceMul, Int.reduceToNat, List.reduceReplicate, Nat.reduceLeDiff, Nat.reduceLT, Int.reduceLT, Int.reduceLE, Int.reduceEq] | with_reducible refine giv_intro fun _h => ?_ | with_reducible refine alt_intro ?_ fun _h => ?_ | with_reducible refine pickD_nil ?_ | (with_reducible refine brc (fun _h => ?_) fun _h => ?_) <;> first | (exfalso; omega) | simp only [decide_eq_false _h] | simp only [(_h : (_ : Bool) = _)] | simp only [decide_eq_true _h] | skip)
  (refine loopC hS [0, 1] (by simp only [go_sem, Nat.reduceEqDiff, ↓reduceIte, reduceCtorEq, Nat.reduceAdd, Nat.reduceMul, Int.reduceToNat, List.reduceReplicate, Nat.reduceLeDiff, Nat.reduceLT, Int.reduceLT, Int.reduceLE, Int.reduceEq]; try rfl) (fun (i : Nat) => [(5, intA i)]) (fun (i : Nat) => []) (fun (i : Nat) => i ≤ l.length) (fun (i : Nat) => l.length - i) (0) ?h01 ?hn1 ?rd1; case hn1 => (intro s; first | rfl | (rcases s with ⟨_, _⟩; rfl) | (rcases s with ⟨_, _, _⟩; rfl) | (rcases s with ⟨_, _, _, _⟩; rfl) | (rcases s with ⟨_, _, _, _, _⟩; rfl)))
  · simp (maxSteps := 900000) (disch := omega) only [go_sem, Nat.reduceEqDiff, ↓reduceIte, reduceCtorEq, Nat.reduceAdd, Nat.reduceMul, Int.reduceToNat, List.reduceReplicate, Nat.reduceLeDiff, Nat.reduceLT, Int.reduceLT, Int.reduceLE, Int.reduceEq]; simp
  rintro i hi
  replace hi : i ≤ l.length := hi
  by_cases hil : i < l.length
  · repeat' (first | with_reducible refine inw ?_ | simp (maxSteps := 900000) (disch := omega) only [go_sem, Nat.reduceEqDiff, ↓reduceIte, reduceCtorEq, Nat.reduceAdd, Nat.reduceMul, Int.reduceToNat, List.reduceReplicate, Nat.reduceLeDiff, Nat.reduceLT, Int.reduceLT, Int.reduceLE, Int.reduceEq] | with_reducible refine giv_intro fun _h => ?_ | with_reducible refine alt_intro ?_ fun _h => ?_ | with_reducible refine pickD_nil ?_ | (with_reducible refine brc (fun _h => ?_) fun _h => ?_) <;> first | (exfalso; omega) | simp only [decide_eq_false _h] | simp only [(_h : (_ : Bool) = _)] | simp only [decide_eq_true _h] | skip)
    exact ⟨i + 1, ⟨by omega, by omega⟩, by omega⟩
  · have : i = l.length := by omega
    subst this
    repeat' (first | with_reducible refine inw ?_ | simp (maxSteps := 900000) (disch := omega) only [go_sem, Nat.reduceEqDiff, ↓reduceIte, reduceCtorEq, Nat.reduceAdd, Nat.reduceMul, Int.reduceToNat, List.reduceReplicate, Nat.reduceLeDiff, Nat.reduceLT, Int.reduceLT, Int.reduceLE, Int.reduceEq] | with_reducible refine giv_intro fun _h => ?_ | with_reducible refine alt_intro ?_ fun _h => ?_ | with_reducible refine pickD_nil ?_ | (with_reducible refine brc (fun _h => ?_) fun _h => ?_) <;> first | (exfalso; omega) | simp only [decide_eq_false _h] | simp only [(_h : (_ : Bool) = _)] | simp only [decide_eq_true _h] | skip)
/-- ablaut/ablautlaw22.LearnRuns: 3 parameters, 0 captured -/
def s7 : SC := .seq (.reg [o1 6 (.mv (cB false))])
  (.seq (.seq (.reg [o1 11 (.mv (.t 0)),
     o1 12 (.call (.f 10) [(.t 11)]),
     o1 13 (.mv (.t 12)),
     oF 14 (.mv (.t 1)) 13,
     oF 15 (.mv (.t 2)) 13,
     oF 16 (.buildSl 40 1 2 [(.slice none 0 0)] [(0, 1, (.t 14)), (1, 1, (.t 15))]) 13,
     oF 17 (.call (.f 21) [(.t 16)]) 13,
     o1 18 (.pick (.t 13) (cB true) (.t 17))])
    (.cond (.t 18) (.seq (.reg [o1 19 (.call (.f 12) []),
       o1 6 (.mv (.t 19))])
      (.ret)) (.skip)))
   (.seq (.reg [o1 21 (.mv (.t 0)),
     o1 22 (.mv (.t 1)),
     o1 23 (.mv (.t 2)),
     o1 24 (.call (.f 27) [(.t 21), (.t 22), (.t 23)]),
     o1 20 (.mv (.t 24)),
     o1 25 (.ext (.t 20) 0),
     o1 26 (.ext (.t 20) 1),
     o1 7 (.mv (.t 25)),
     o1 8 (.mv (.t 26))])
    (.seq (.reg [o1 28 (.mv (.t 0)),
      o1 29 (.mv (.t 1)),
      o1 30 (.mv (.t 2)),
      o1 31 (.call (.f 28) [(.t 28), (.t 29), (.t 30)]),
      o1 27 (.mv (.t 31)),
      o1 32 (.ext (.t 27) 0),
      o1 33 (.ext (.t 27) 1),
      o1 9 (.mv (.t 32)),
      o1 10 (.mv (.t 33))])
     (.seq (.reg [o1 34 (.mv (.t 7)),
       o1 35 (.mv (.t 9)),
       o1 36 (.call (.f 29) [(.t 34), (.t 35)]),
       o1 37 (.mv (.t 36)),
       oT 38 (.mv (.t 8)) 37,
       oT 39 (.mv (.t 10)) 37,
       oT 40 (.bin .eql (.t 38) (.t 39)) 37,
       o1 41 (.pick (.t 37) (.t 40) (cB false)),
       o1 42 (.mv (.t 41)),
       oT 43 (.call (.f 12) []) 42,
       o1 44 (.pick (.t 42) (.t 43) (cB false)),
       o1 6 (.mv (.t 44))])
      (.ret)))))
theorem s7_ok : lookF Try.prog 7 = some (s7, 45, [.tmp 6]) := by kernel_rfl
theorem LearnRuns_ok (l : List Change) (w t : List Str) (hl : ∀ c ∈ l, SmC c) (hw : ∀ s ∈ w, s.size ≤ 4611686018427387904) (ht : ∀ s ∈ t, s.size ≤ 4611686018427387904) : Fn P 7 [sl l, sl w, sl t] (boolA true) := by
  have c1 := IsLong_ok [w, t] (by simp; exact ⟨hw, ht⟩)
  have c2 := Run_ok l w t hl ⟨hw, ht, ht⟩
  have c3 := rRun2_ok l w t hl ⟨hw, ht, ht⟩
  have c4 := sameTexts_ok (runT l w t).1
  (refine fn_look s7_ok (by simp) (by intro k; simp only [go_sem, Nat.reduceEqDiff, ↓reduceIte, reduceCtorEq, Nat.reduceAdd, Nat.reduceMul, Int.reduceToNat, List.reduceReplicate, Nat.reduceLeDiff, Nat.reduceLT, Int.reduceLT, Int.reduceLE, Int.reduceEq]) fun S hS => cwp_sound _ _ _ _ ?_; simp (maxSteps := 900000) (disch := omega) only [s7, go_sem, Nat.reduceEqDiff, ↓reduceIte, reduceCtorEq, Nat.reduceAdd, Nat.reduceMul, Int.reduceToNat, List.reduceReplicate, Nat.reduceLeDiff, Nat.reduceLT, Int.reduceLT, Int.reduceLE, Int.reduceEq])
  repeat' (first | with_reducible refine inw ?_ | simp (maxSteps := 900000) (disch := omega) only [go_sem, Nat.reduceEqDiff, ↓reduceIte, reduceCtorEq, Nat.reduceAdd, Nat.reduceMul, Int.reduceToNat, List.reduceReplicate, Nat.reduceLeDiff, Nat.reduceLT, Int.reduceLT, Int.reduceLE, Int.reduceEq] | (with_reducible apply callR (overC_ok l)); (focus simp (maxSteps := 900000) (disch := omega) only [go_sem, Nat.reduceEqDiff, ↓reduceIte, reduceCtorEq, Nat.reduceAdd, Nat.reduceMul, Int.reduceToNat, List.reduceReplicate, Nat.reduceLeDiff, Nat.reduceLT, Int.reduceLT, Int.reduceLE, Int.reduceEq] <;> rfl); rintro _ ⟨_, rfl⟩ | (with_reducible apply call_lend (c1)); (focus simp (maxSteps := 900000) (disch := omega) only [go_sem, Nat.reduceEqDiff, ↓reduceIte, reduceCtorEq, Nat.reduceAdd, Nat.reduceMul, Int.reduceToNat, List.reduceReplicate, Nat.reduceLeDiff, Nat.reduceLT, Int.reduceLT, Int.reduceLE, Int.reduceEq] <;> rfl); (focus rfl) | (with_reducible apply call (known_ok)); (focus simp (maxSteps := 900000) (disch := omega) only [go_sem, Nat.reduceEqDiff, ↓reduceIte, reduceCtorEq, Nat.reduceAdd, Nat.reduceMul, Int.reduceToNat, List.reduceReplicate, Nat.reduceLeDiff, Nat.reduceLT, Int.reduceLT, Int.reduceLE, Int.reduceEq] <;> rfl) | (with_reducible apply call (c2)); (focus simp (maxSteps := 900000) (disch := omega) only [go_sem, Nat.reduceEqDiff, ↓reduceIte, reduceCtorEq, Nat.reduceAdd, Nat.reduceMul, Int.reduceToNat, List.reduceReplicate, Nat.reduceLeDiff, Nat.reduceLT, Int.reduceLT, Int.reduceLE, Int.reduceEq] <;> rfl) | (with_reducible apply call (c3)); (focus simp (maxSteps := 900000) (disch := omega) only [go_sem, Nat.reduceEqDiff, ↓reduceIte, reduceCtorEq, Nat.reduceAdd, Nat.reduceMul, Int.reduceToNat, List.reduceReplicate, Nat.reduceLeDiff, Nat.reduceLT, Int.reduceLT, Int.reduceLE, Int.reduceEq] <;> rfl) | (with_reducible apply call (c4)); (focus simp (maxSteps := 900000) (disch := omega) only [go_sem, Nat.reduceEqDiff, ↓reduceIte, reduceCtorEq, Nat.reduceAdd, Nat.reduceMul, Int.reduceToNat, List.reduceReplicate, Nat.reduceLeDiff, Nat.reduceLT, Int.reduceLT, Int.reduceLE, Int.reduceEq] <;> rfl) | with_reducible refine giv_intro fun _h => ?_ | with_reducible refine alt_intro ?_ fun _h => ?_ | with_reducible refine pickD_nil ?_ | (with_reducible refine brc (fun _h => ?_) fun _h => ?_) <;> first | (exfalso; omega) | simp only [decide_eq_false _h] | simp only [(_h : (_ : Bool) = _)] | simp only [decide_eq_true _h] | skip)
/-! ### what comes in is small -/
theorem smC1_of {a : Change} (h : a.1.size ≤ 140737488351232 ∧ a.2.1.size ≤ 140737488351232 ∧ (-9223372036854775808 ≤ a.2.2.1 ∧ a.2.2.1 ≤ 9223372036854775807) ∧ a.2.2.2.size ≤ 140737488351232) : SmC a := ⟨by omega, by omega, by omega⟩
theorem smC_of {l : List Change} {n : Nat} (h : l.length * n ≤ 140737488351232 ∧ ∀ a ∈ l, a.1.size ≤ 140737488351232 ∧ a.2.1.size ≤ 140737488351232 ∧ (-9223372036854775808 ≤ a.2.2.1 ∧ a.2.2.1 ≤ 9223372036854775807) ∧ a.2.2.2.size ≤ 140737488351232) : ∀ c ∈ l, SmC c := fun c hc => smC1_of (h.2 c hc)
theorem smT_of {l : List Str} {n : Nat} (h : l.length * n ≤ 140737488351232 ∧ ∀ s ∈ l, s.size ≤ 140737488351232) : ∀ s ∈ l, s.size ≤ 4611686018427387904 := fun s hs => by have := h.2 s hs; omega
end Go.Proofs.Ytapgimibdamjoaa.Ev

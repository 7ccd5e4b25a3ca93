/- Four laws: LearnValidates, LearnGains, LearnApplies, LearnRuns. -/
import Derived.Test.YtapgimibdamjoaaZFnNt
set_option linter.unusedVariables false
set_option linter.unusedSimpArgs false
namespace Go.Proofs.Ytapgimibdamjoaa.Ev
open Go Go.Proofs Go.RowKit

/-- ablaut/ablautlaw22.LearnValidates: 2 parameters, 0 captured -/
def s3 : SC := .seq (.reg [o1 4 (.mv (cB false))])
  (.seq (.seq (.reg [o1 5 (.mv (.t 0)),
     o1 6 (.call (.f 10) [(.t 5)]),
     o1 7 (.mv (.t 6)),
     oF 8 (.mv (.t 1)) 7,
     oF 9 (.call (.f 11) [(.t 8)]) 7,
     o1 10 (.pick (.t 7) (cB true) (.t 9))])
    (.cond (.t 10) (.seq (.reg [o1 11 (.call (.f 12) []),
       o1 4 (.mv (.t 11))])
      (.ret)) (.skip)))
   (.seq (.reg [o1 12 (.mv (.t 0)),
     o1 13 (.call (.f 13) [(.t 12)]),
     o1 14 (.mv (.t 0)),
     o1 15 (.call (.f 14) [(.t 14)]),
     o1 16 (.bin .eql (.t 13) (.t 15)),
     o1 17 (.mv (.t 16)),
     oT 18 (.mv (.t 1)) 17,
     oT 19 (.call (.f 15) [(.t 18)]) 17,
     oT 20 (.mv (.t 1)) 17,
     oT 21 (.call (.f 16) [(.t 20)]) 17,
     oT 22 (.bin .eql (.t 19) (.t 21)) 17,
     o1 23 (.pick (.t 17) (.t 22) (cB false)),
     o1 24 (.mv (.t 23)),
     oT 25 (.call (.f 12) []) 24,
     o1 26 (.pick (.t 24) (.t 25) (cB false)),
     o1 4 (.mv (.t 26))])
    (.ret)))
theorem s3_ok : lookF Try.prog 3 = some (s3, 27, [.tmp 4]) := by kernel_rfl
theorem LearnValidates_ok (l : List Change) (ls : List Lesson) (hl : ∀ c ∈ l, SmC c) (hs : SmLs ls) : Fn P 3 [sl l, sl ls] (boolA true) := by
  (refine fn_look s3_ok (by simp) (by intro k; simp only [go_sem, Nat.reduceEqDiff, ↓reduceIte, reduceCtorEq, Nat.reduceAdd, Nat.reduceMul, Int.reduceToNat, List.reduceReplicate, Nat.reduceLeDiff, Nat.reduceLT, Int.reduceLT, Int.reduceLE, Int.reduceEq]) fun S hS => cwp_sound _ _ _ _ ?_; simp (maxSteps := 900000) (disch := omega) only [s3, go_sem, Nat.reduceEqDiff, ↓reduceIte, reduceCtorEq, Nat.reduceAdd, Nat.reduceMul, Int.reduceToNat, List.reduceReplicate, Nat.reduceLeDiff, Nat.reduceLT, Int.reduceLT, Int.reduceLE, Int.reduceEq])
  repeat' (first | with_reducible refine inw ?_ | simp (maxSteps := 900000) (disch := omega) only [go_sem, Nat.reduceEqDiff, ↓reduceIte, reduceCtorEq, Nat.reduceAdd, Nat.reduceMul, Int.reduceToNat, List.reduceReplicate, Nat.reduceLeDiff, Nat.reduceLT, Int.reduceLT, Int.reduceLE, Int.reduceEq] | (with_reducible apply callR (overC_ok l)); (focus simp (maxSteps := 900000) (disch := omega) only [go_sem, Nat.reduceEqDiff, ↓reduceIte, reduceCtorEq, Nat.reduceAdd, Nat.reduceMul, Int.reduceToNat, List.reduceReplicate, Nat.reduceLeDiff, Nat.reduceLT, Int.reduceLT, Int.reduceLE, Int.reduceEq] <;> rfl); rintro _ ⟨_, rfl⟩ | (with_reducible apply callR (over_ok ls hs)); (focus simp (maxSteps := 900000) (disch := omega) only [go_sem, Nat.reduceEqDiff, ↓reduceIte, reduceCtorEq, Nat.reduceAdd, Nat.reduceMul, Int.reduceToNat, List.reduceReplicate, Nat.reduceLeDiff, Nat.reduceLT, Int.reduceLT, Int.reduceLE, Int.reduceEq] <;> rfl); rintro _ ⟨_, rfl⟩ | (with_reducible apply call (known_ok)); (focus simp (maxSteps := 900000) (disch := omega) only [go_sem, Nat.reduceEqDiff, ↓reduceIte, reduceCtorEq, Nat.reduceAdd, Nat.reduceMul, Int.reduceToNat, List.reduceReplicate, Nat.reduceLeDiff, Nat.reduceLT, Int.reduceLT, Int.reduceLE, Int.reduceEq] <;> rfl) | (with_reducible apply call (validate_ok l hl)); (focus simp (maxSteps := 900000) (disch := omega) only [go_sem, Nat.reduceEqDiff, ↓reduceIte, reduceCtorEq, Nat.reduceAdd, Nat.reduceMul, Int.reduceToNat, List.reduceReplicate, Nat.reduceLeDiff, Nat.reduceLT, Int.reduceLT, Int.reduceLE, Int.reduceEq] <;> rfl) | (with_reducible apply call (rValidate_ok l hl)); (focus simp (maxSteps := 900000) (disch := omega) only [go_sem, Nat.reduceEqDiff, ↓reduceIte, reduceCtorEq, Nat.reduceAdd, Nat.reduceMul, Int.reduceToNat, List.reduceReplicate, Nat.reduceLeDiff, Nat.reduceLT, Int.reduceLT, Int.reduceLE, Int.reduceEq] <;> rfl) | (with_reducible apply call (validateL_ok ls hs)); (focus simp (maxSteps := 900000) (disch := omega) only [go_sem, Nat.reduceEqDiff, ↓reduceIte, reduceCtorEq, Nat.reduceAdd, Nat.reduceMul, Int.reduceToNat, List.reduceReplicate, Nat.reduceLeDiff, Nat.reduceLT, Int.reduceLT, Int.reduceLE, Int.reduceEq] <;> rfl) | (with_reducible apply call (rValidateL_ok ls hs)); (focus simp (maxSteps := 900000) (disch := omega) only [go_sem, Nat.reduceEqDiff, ↓reduceIte, reduceCtorEq, Nat.reduceAdd, Nat.reduceMul, Int.reduceToNat, List.reduceReplicate, Nat.reduceLeDiff, Nat.reduceLT, Int.reduceLT, Int.reduceLE, Int.reduceEq] <;> rfl) | with_reducible refine giv_intro fun _h => ?_ | with_reducible refine alt_intro ?_ fun _h => ?_ | with_reducible refine pickD_nil ?_ | (with_reducible refine brc (fun _h => ?_) fun _h => ?_) <;> first | (exfalso; omega) | simp only [decide_eq_false _h] | simp only [(_h : (_ : Bool) = _)] | simp only [decide_eq_true _h] | skip)
/-! ### what comes in is small -/
theorem smC1_of {a : Change} (h : a.1.size ≤ 140737488351232 ∧ a.2.1.size ≤ 140737488351232 ∧ (-9223372036854775808 ≤ a.2.2.1 ∧ a.2.2.1 ≤ 9223372036854775807) ∧ a.2.2.2.size ≤ 140737488351232) : SmC a := ⟨by omega, by omega, by omega⟩
theorem smC_of {l : List Change} {n : Nat} (h : l.length * n ≤ 140737488351232 ∧ ∀ a ∈ l, a.1.size ≤ 140737488351232 ∧ a.2.1.size ≤ 140737488351232 ∧ (-9223372036854775808 ≤ a.2.2.1 ∧ a.2.2.1 ≤ 9223372036854775807) ∧ a.2.2.2.size ≤ 140737488351232) : ∀ c ∈ l, SmC c := fun c hc => smC1_of (h.2 c hc)
theorem smT_of {l : List Str} {n : Nat} (h : l.length * n ≤ 140737488351232 ∧ ∀ s ∈ l, s.size ≤ 140737488351232) : ∀ s ∈ l, s.size ≤ 4611686018427387904 := fun s hs => by have := h.2 s hs; omega
theorem smL_of {l : List Lesson} {m n1 n2 n3 : Nat} (h : l.length * m ≤ 140737488351232 ∧ ∀ a ∈ l, (a.1.length * n1 ≤ 140737488351232 ∧ ∀ s ∈ a.1, s.size ≤ 140737488351232) ∧ (a.2.1.length * n2 ≤ 140737488351232 ∧ ∀ s ∈ a.2.1, s.size ≤ 140737488351232) ∧ (a.2.2.length * n3 ≤ 140737488351232 ∧ ∀ s ∈ a.2.2, s.size ≤ 140737488351232)) : SmLs l := fun x hx =>
  ⟨smT_of (h.2 x hx).1, smT_of (h.2 x hx).2.1, smT_of (h.2 x hx).2.2⟩
end Go.Proofs.Ytapgimibdamjoaa.Ev

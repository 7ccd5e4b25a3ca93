/- Which changes are needed: both programs. -/
import Derived.Test.YtapgimibdamjoaaZFnNw
set_option linter.unusedVariables false
set_option linter.unusedSimpArgs false
namespace Go.Proofs.Ytapgimibdamjoaa.Ev
open Go Go.Proofs Go.RowKit

/-- The first part of an own row, that is written no more. -/
theorem View.freezeP {α : Type} {k : Nat} [Enc α k] {fr : Fr} {S : St} {L : List (Option Ob)} (i j e tot : Nat) (l : List α) {cs : List AV} (h : fit (fr i) (.ref (S.nm j) tot 0 l.length)) (hr : rowAt L j tot = some (e, k, cs)) (hc : cs.take (l.length * k) = cellsL l) (ht : l.length * k ≤ tot) (hj : j < L.length) :
    View fr (S.stk L) (fr.put (some i) (sl l)) (S.stk (L.set j none)) := by
  have h : fr i = .ref (S.nm j) tot 0 l.length := by
    rcases h with h | ⟨_, h⟩ | h
    · exact h
    · cases h
    · cases h
  rw [← stk_row S] at hr
  obtain ⟨hm, hl⟩ := row?_some hr
  have := View.freeze (i := i) (k := k) h hm hl ht
  rw [stk_killL S hj, hc] at this
  exact this
/-! ### both, Wrong -/
def bothV (l : List Change) (ls : List Lesson) : Int := if valC l ≠ 0 then valC l else valL ls
/-- ablaut/learn.both: 2 parameters, 0 captured -/
def s56 : SC := .seq (.reg [o1 4 (.mv (cI 0))])
  (.seq (.seq (.reg [o1 6 (.mv (.t 0)),
     o1 7 (.call (.f 13) [(.t 6)]),
     o1 5 (.mv (.t 7))])
    (.seq (.reg [o1 8 (.mv (.t 5)),
      o1 9 (.bin .neq (.t 8) (cI 0))])
     (.cond (.t 9) (.seq (.reg [o1 10 (.mv (.t 5)),
        o1 4 (.mv (.t 10))])
       (.ret)) (.skip))))
   (.seq (.reg [o1 11 (.mv (.t 1)),
     o1 12 (.call (.f 15) [(.t 11)]),
     o1 4 (.mv (.t 12))])
    (.ret)))
theorem s56_ok : lookF Try.prog 56 = some (s56, 13, [.tmp 4]) := by kernel_rfl
theorem both_ok (l : List Change) (ls : List Lesson) (hl : ∀ c ∈ l, SmC c) (hs : SmLs ls) : Fn P 56 [sl l, sl ls] (intA (bothV l ls)) := by
  have c1 := validate_ok l hl
  have c2 := validateL_ok ls hs
  by_cases h : valC l = 0
  · rw [h] at c1
    rw [bothV, if_neg (by simpa using h)]
    (refine fn_look s56_ok (by simp) (by intro k; simp only [go_sem, Nat.reduceEqDiff, ↓reduceIte, reduceCtorEq, Nat.reduceAdd, Nat.reduceMul, Int.reduceToNat, List.reduceReplicate, Nat.reduceLeDiff, Nat.reduceLT, Int.reduceLT, Int.reduceLE, Int.reduceEq]) fun S hS => cwp_sound _ _ _ _ ?_; simp (maxSteps := 900000) (disch := omega) only [s56, go_sem, Nat.reduceEqDiff, ↓reduceIte, reduceCtorEq, Nat.reduceAdd, Nat.reduceMul, Int.reduceToNat, List.reduceReplicate, Nat.reduceLeDiff, Nat.reduceLT, Int.reduceLT, Int.reduceLE, Int.reduceEq])
    repeat' (first | with_reducible refine inw ?_ | simp (maxSteps := 900000) (disch := omega) only [go_sem, Nat.reduceEqDiff, ↓reduceIte, reduceCtorEq, Nat.reduceAdd, Nat.reduceMul, Int.reduceToNat, List.reduceReplicate, Nat.reduceLeDiff, Nat.reduceLT, Int.reduceLT, Int.reduceLE, Int.reduceEq] | (with_reducible apply call (c1)); (focus simp (maxSteps := 900000) (disch := omega) only [go_sem, Nat.reduceEqDiff, ↓reduceIte, reduceCtorEq, Nat.reduceAdd, Nat.reduceMul, Int.reduceToNat, List.reduceReplicate, Nat.reduceLeDiff, Nat.reduceLT, Int.reduceLT, Int.reduceLE, Int.reduceEq] <;> rfl) | (with_reducible apply call (c2)); (focus simp (maxSteps := 900000) (disch := omega) only [go_sem, Nat.reduceEqDiff, ↓reduceIte, reduceCtorEq, Nat.reduceAdd, Nat.reduceMul, Int.reduceToNat, List.reduceReplicate, Nat.reduceLeDiff, Nat.reduceLT, Int.reduceLT, Int.reduceLE, Int.reduceEq] <;> rfl) | with_reducible refine giv_intro fun _h => ?_ | with_reducible refine alt_intro ?_ fun _h => ?_ | with_reducible refine pickD_nil ?_ | (with_reducible refine brc (fun _h => ?_) fun _h => ?_) <;> first | (exfalso; omega) | simp only [decide_eq_false _h] | simp only [(_h : (_ : Bool) = _)] | simp only [decide_eq_true _h] | skip)
    all_goals first | rfl | (exfalso; omega)
  · rw [bothV, if_pos h]
    (refine fn_look s56_ok (by simp) (by intro k; simp only [go_sem, Nat.reduceEqDiff, ↓reduceIte, reduceCtorEq, Nat.reduceAdd, Nat.reduceMul, Int.reduceToNat, List.reduceReplicate, Nat.reduceLeDiff, Nat.reduceLT, Int.reduceLT, Int.reduceLE, Int.reduceEq]) fun S hS => cwp_sound _ _ _ _ ?_; simp (maxSteps := 900000) (disch := omega) only [s56, go_sem, Nat.reduceEqDiff, ↓reduceIte, reduceCtorEq, Nat.reduceAdd, Nat.reduceMul, Int.reduceToNat, List.reduceReplicate, Nat.reduceLeDiff, Nat.reduceLT, Int.reduceLT, Int.reduceLE, Int.reduceEq])
    repeat' (first | with_reducible refine inw ?_ | simp (maxSteps := 900000) (disch := omega) only [go_sem, Nat.reduceEqDiff, ↓reduceIte, reduceCtorEq, Nat.reduceAdd, Nat.reduceMul, Int.reduceToNat, List.reduceReplicate, Nat.reduceLeDiff, Nat.reduceLT, Int.reduceLT, Int.reduceLE, Int.reduceEq] | (with_reducible apply call (c1)); (focus simp (maxSteps := 900000) (disch := omega) only [go_sem, Nat.reduceEqDiff, ↓reduceIte, reduceCtorEq, Nat.reduceAdd, Nat.reduceMul, Int.reduceToNat, List.reduceReplicate, Nat.reduceLeDiff, Nat.reduceLT, Int.reduceLT, Int.reduceLE, Int.reduceEq] <;> rfl) | (with_reducible apply call (c2)); (focus simp (maxSteps := 900000) (disch := omega) only [go_sem, Nat.reduceEqDiff, ↓reduceIte, reduceCtorEq, Nat.reduceAdd, Nat.reduceMul, Int.reduceToNat, List.reduceReplicate, Nat.reduceLeDiff, Nat.reduceLT, Int.reduceLT, Int.reduceLE, Int.reduceEq] <;> rfl) | with_reducible refine giv_intro fun _h => ?_ | with_reducible refine alt_intro ?_ fun _h => ?_ | with_reducible refine pickD_nil ?_ | (with_reducible refine brc (fun _h => ?_) fun _h => ?_) <;> first | (exfalso; omega) | simp only [decide_eq_false _h] | simp only [(_h : (_ : Bool) = _)] | simp only [decide_eq_true _h] | skip)
    all_goals first | rfl | (exfalso; omega)
/-- ablaut/ablautref22.both: 2 parameters, 0 captured -/
def s58 : SC := .seq (.reg [o1 4 (.mv (cI 0))])
  (.seq (.seq (.reg [o1 6 (.mv (.t 0)),
     o1 7 (.call (.f 14) [(.t 6)]),
     o1 5 (.mv (.t 7))])
    (.seq (.reg [o1 8 (.mv (.t 5)),
      o1 9 (.bin .neq (.t 8) (cI 0))])
     (.cond (.t 9) (.seq (.reg [o1 10 (.mv (.t 5)),
        o1 4 (.mv (.t 10))])
       (.ret)) (.skip))))
   (.seq (.reg [o1 11 (.mv (.t 1)),
     o1 12 (.call (.f 16) [(.t 11)]),
     o1 4 (.mv (.t 12))])
    (.ret)))
theorem s58_ok : lookF Try.prog 58 = some (s58, 13, [.tmp 4]) := by kernel_rfl
theorem rBoth_ok (l : List Change) (ls : List Lesson) (hl : ∀ c ∈ l, SmC c) (hs : SmLs ls) : Fn P 58 [sl l, sl ls] (intA (bothV l ls)) := by
  have c1 := rValidate_ok l hl
  have c2 := rValidateL_ok ls hs
  by_cases h : valC l = 0
  · rw [h] at c1
    rw [bothV, if_neg (by simpa using h)]
    (refine fn_look s58_ok (by simp) (by intro k; simp only [go_sem, Nat.reduceEqDiff, ↓reduceIte, reduceCtorEq, Nat.reduceAdd, Nat.reduceMul, Int.reduceToNat, List.reduceReplicate, Nat.reduceLeDiff, Nat.reduceLT, Int.reduceLT, Int.reduceLE, Int.reduceEq]) fun S hS => cwp_sound _ _ _ _ ?_; simp (maxSteps := 900000) (disch := omega) only [s58, go_sem, Nat.reduceEqDiff, ↓reduceIte, reduceCtorEq, Nat.reduceAdd, Nat.reduceMul, Int.reduceToNat, List.reduceReplicate, Nat.reduceLeDiff, Nat.reduceLT, Int.reduceLT, Int.reduceLE, Int.reduceEq])
    repeat' (first | with_reducible refine inw ?_ | simp (maxSteps := 900000) (disch := omega) only [go_sem, Nat.reduceEqDiff, ↓reduceIte, reduceCtorEq, Nat.reduceAdd, Nat.reduceMul, Int.reduceToNat, List.reduceReplicate, Nat.reduceLeDiff, Nat.reduceLT, Int.reduceLT, Int.reduceLE, Int.reduceEq] | (with_reducible apply call (c1)); (focus simp (maxSteps := 900000) (disch := omega) only [go_sem, Nat.reduceEqDiff, ↓reduceIte, reduceCtorEq, Nat.reduceAdd, Nat.reduceMul, Int.reduceToNat, List.reduceReplicate, Nat.reduceLeDiff, Nat.reduceLT, Int.reduceLT, Int.reduceLE, Int.reduceEq] <;> rfl) | (with_reducible apply call (c2)); (focus simp (maxSteps := 900000) (disch := omega) only [go_sem, Nat.reduceEqDiff, ↓reduceIte, reduceCtorEq, Nat.reduceAdd, Nat.reduceMul, Int.reduceToNat, List.reduceReplicate, Nat.reduceLeDiff, Nat.reduceLT, Int.reduceLT, Int.reduceLE, Int.reduceEq] <;> rfl) | with_reducible refine giv_intro fun _h => ?_ | with_reducible refine alt_intro ?_ fun _h => ?_ | with_reducible refine pickD_nil ?_ | (with_reducible refine brc (fun _h => ?_) fun _h => ?_) <;> first | (exfalso; omega) | simp only [decide_eq_false _h] | simp only [(_h : (_ : Bool) = _)] | simp only [decide_eq_true _h] | skip)
    all_goals first | rfl | (exfalso; omega)
  · rw [bothV, if_pos h]
    (refine fn_look s58_ok (by simp) (by intro k; simp only [go_sem, Nat.reduceEqDiff, ↓reduceIte, reduceCtorEq, Nat.reduceAdd, Nat.reduceMul, Int.reduceToNat, List.reduceReplicate, Nat.reduceLeDiff, Nat.reduceLT, Int.reduceLT, Int.reduceLE, Int.reduceEq]) fun S hS => cwp_sound _ _ _ _ ?_; simp (maxSteps := 900000) (disch := omega) only [s58, go_sem, Nat.reduceEqDiff, ↓reduceIte, reduceCtorEq, Nat.reduceAdd, Nat.reduceMul, Int.reduceToNat, List.reduceReplicate, Nat.reduceLeDiff, Nat.reduceLT, Int.reduceLT, Int.reduceLE, Int.reduceEq])
    repeat' (first | with_reducible refine inw ?_ | simp (maxSteps := 900000) (disch := omega) only [go_sem, Nat.reduceEqDiff, ↓reduceIte, reduceCtorEq, Nat.reduceAdd, Nat.reduceMul, Int.reduceToNat, List.reduceReplicate, Nat.reduceLeDiff, Nat.reduceLT, Int.reduceLT, Int.reduceLE, Int.reduceEq] | (with_reducible apply call (c1)); (focus simp (maxSteps := 900000) (disch := omega) only [go_sem, Nat.reduceEqDiff, ↓reduceIte, reduceCtorEq, Nat.reduceAdd, Nat.reduceMul, Int.reduceToNat, List.reduceReplicate, Nat.reduceLeDiff, Nat.reduceLT, Int.reduceLT, Int.reduceLE, Int.reduceEq] <;> rfl) | (with_reducible apply call (c2)); (focus simp (maxSteps := 900000) (disch := omega) only [go_sem, Nat.reduceEqDiff, ↓reduceIte, reduceCtorEq, Nat.reduceAdd, Nat.reduceMul, Int.reduceToNat, List.reduceReplicate, Nat.reduceLeDiff, Nat.reduceLT, Int.reduceLT, Int.reduceLE, Int.reduceEq] <;> rfl) | with_reducible refine giv_intro fun _h => ?_ | with_reducible refine alt_intro ?_ fun _h => ?_ | with_reducible refine pickD_nil ?_ | (with_reducible refine brc (fun _h => ?_) fun _h => ?_) <;> first | (exfalso; omega) | simp only [decide_eq_false _h] | simp only [(_h : (_ : Bool) = _)] | simp only [decide_eq_true _h] | skip)
    all_goals first | rfl | (exfalso; omega)
theorem both_0 {l : List Change} {ls : List Lesson} (h : bothV l ls = 0) : valC l = 0 ∧ valL ls = 0 := by
  rw [bothV] at h
  split at h
  · exact absurd h (by assumption)
  · exact ⟨by simpa using ‹¬valC l ≠ 0›, h⟩
def wrongT (l : List Change) (ls : List Lesson) : Int × Int := if bothV l ls ≠ 0 then (0, bothV l ls) else (wrongL l ls, 0)
/-- ablaut/learn.Wrong: 2 parameters, 0 captured -/
def s30 : SC := .seq (.reg [o1 4 (.mv (cI 0)),
   o1 5 (.mv (cI 0))])
  (.seq (.seq (.reg [o1 7 (.mv (.t 0)),
     o1 8 (.mv (.t 1)),
     o1 9 (.call (.f 56) [(.t 7), (.t 8)]),
     o1 6 (.mv (.t 9))])
    (.seq (.reg [o1 10 (.mv (.t 6)),
      o1 11 (.bin .neq (.t 10) (cI 0))])
     (.cond (.t 11) (.seq (.reg [o1 12 (.mv (.t 6)),
        o1 4 (.mv (cI 0)),
        o1 5 (.mv (.t 12))])
       (.ret)) (.skip))))
   (.seq (.reg [o1 13 (.mv (.t 0)),
     o1 14 (.mv (.t 1)),
     o1 15 (.call (.f 57) [(.t 13), (.t 14)]),
     o1 4 (.mv (.t 15)),
     o1 5 (.mv (cI 0))])
    (.ret)))
theorem s30_ok : lookF Try.prog 30 = some (s30, 16, [.tmp 4, .tmp 5]) := by kernel_rfl
theorem Wrong_ok (l : List Change) (ls : List Lesson) (hl : ∀ c ∈ l, SmC c) (hs : SmLs ls) : Fn P 30 [sl l, sl ls] (inI (wrongT l ls)) := by
  have c1 := both_ok l ls hl hs
  by_cases h : bothV l ls = 0
  · obtain ⟨h1, h2⟩ := both_0 h
    have c2 := wrong_ok l ls (kd_all h1) (okLs h2)
    rw [wrongT, if_neg (by simpa using h)]
    rw [h] at c1
    (refine fn_look s30_ok (by simp) (by intro k; simp only [go_sem, Nat.reduceEqDiff, ↓reduceIte, reduceCtorEq, Nat.reduceAdd, Nat.reduceMul, Int.reduceToNat, List.reduceReplicate, Nat.reduceLeDiff, Nat.reduceLT, Int.reduceLT, Int.reduceLE, Int.reduceEq]) fun S hS => cwp_sound _ _ _ _ ?_; simp (maxSteps := 900000) (disch := omega) only [s30, go_sem, Nat.reduceEqDiff, ↓reduceIte, reduceCtorEq, Nat.reduceAdd, Nat.reduceMul, Int.reduceToNat, List.reduceReplicate, Nat.reduceLeDiff, Nat.reduceLT, Int.reduceLT, Int.reduceLE, Int.reduceEq])
    repeat' (first | with_reducible refine inw ?_ | simp (maxSteps := 900000) (disch := omega) only [go_sem, Nat.reduceEqDiff, ↓reduceIte, reduceCtorEq, Nat.reduceAdd, Nat.reduceMul, Int.reduceToNat, List.reduceReplicate, Nat.reduceLeDiff, Nat.reduceLT, Int.reduceLT, Int.reduceLE, Int.reduceEq] | (with_reducible apply call (c1)); (focus simp (maxSteps := 900000) (disch := omega) only [go_sem, Nat.reduceEqDiff, ↓reduceIte, reduceCtorEq, Nat.reduceAdd, Nat.reduceMul, Int.reduceToNat, List.reduceReplicate, Nat.reduceLeDiff, Nat.reduceLT, Int.reduceLT, Int.reduceLE, Int.reduceEq] <;> rfl) | (with_reducible apply call (c2)); (focus simp (maxSteps := 900000) (disch := omega) only [go_sem, Nat.reduceEqDiff, ↓reduceIte, reduceCtorEq, Nat.reduceAdd, Nat.reduceMul, Int.reduceToNat, List.reduceReplicate, Nat.reduceLeDiff, Nat.reduceLT, Int.reduceLT, Int.reduceLE, Int.reduceEq] <;> rfl) | with_reducible refine giv_intro fun _h => ?_ | with_reducible refine alt_intro ?_ fun _h => ?_ | with_reducible refine pickD_nil ?_ | (with_reducible refine brc (fun _h => ?_) fun _h => ?_) <;> first | (exfalso; omega) | simp only [decide_eq_false _h] | simp only [(_h : (_ : Bool) = _)] | simp only [decide_eq_true _h] | skip)
    all_goals first | rfl | (exfalso; omega)
  · rw [wrongT, if_pos h]
    (refine fn_look s30_ok (by simp) (by intro k; simp only [go_sem, Nat.reduceEqDiff, ↓reduceIte, reduceCtorEq, Nat.reduceAdd, Nat.reduceMul, Int.reduceToNat, List.reduceReplicate, Nat.reduceLeDiff, Nat.reduceLT, Int.reduceLT, Int.reduceLE, Int.reduceEq]) fun S hS => cwp_sound _ _ _ _ ?_; simp (maxSteps := 900000) (disch := omega) only [s30, go_sem, Nat.reduceEqDiff, ↓reduceIte, reduceCtorEq, Nat.reduceAdd, Nat.reduceMul, Int.reduceToNat, List.reduceReplicate, Nat.reduceLeDiff, Nat.reduceLT, Int.reduceLT, Int.reduceLE, Int.reduceEq])
    repeat' (first | with_reducible refine inw ?_ | simp (maxSteps := 900000) (disch := omega) only [go_sem, Nat.reduceEqDiff, ↓reduceIte, reduceCtorEq, Nat.reduceAdd, Nat.reduceMul, Int.reduceToNat, List.reduceReplicate, Nat.reduceLeDiff, Nat.reduceLT, Int.reduceLT, Int.reduceLE, Int.reduceEq] | (with_reducible apply call (c1)); (focus simp (maxSteps := 900000) (disch := omega) only [go_sem, Nat.reduceEqDiff, ↓reduceIte, reduceCtorEq, Nat.reduceAdd, Nat.reduceMul, Int.reduceToNat, List.reduceReplicate, Nat.reduceLeDiff, Nat.reduceLT, Int.reduceLT, Int.reduceLE, Int.reduceEq] <;> rfl) | with_reducible refine giv_intro fun _h => ?_ | with_reducible refine alt_intro ?_ fun _h => ?_ | with_reducible refine pickD_nil ?_ | (with_reducible refine brc (fun _h => ?_) fun _h => ?_) <;> first | (exfalso; omega) | simp only [decide_eq_false _h] | simp only [(_h : (_ : Bool) = _)] | simp only [decide_eq_true _h] | skip)
    all_goals first | rfl | (exfalso; omega)
/-- ablaut/ablautref22.Wrong: 2 parameters, 0 captured -/
def s31 : SC := .seq (.reg [o1 4 (.mv (cI 0)),
   o1 5 (.mv (cI 0))])
  (.seq (.seq (.reg [o1 7 (.mv (.t 0)),
     o1 8 (.mv (.t 1)),
     o1 9 (.call (.f 58) [(.t 7), (.t 8)]),
     o1 6 (.mv (.t 9))])
    (.seq (.reg [o1 10 (.mv (.t 6)),
      o1 11 (.bin .neq (.t 10) (cI 0))])
     (.cond (.t 11) (.seq (.reg [o1 12 (.mv (.t 6)),
        o1 4 (.mv (cI 0)),
        o1 5 (.mv (.t 12))])
       (.ret)) (.skip))))
   (.seq (.reg [o1 13 (.mv (.t 0)),
     o1 14 (.mv (.t 1)),
     o1 15 (.call (.f 45) [(.t 13), (.t 14)]),
     o1 4 (.mv (.t 15)),
     o1 5 (.mv (cI 0))])
    (.ret)))
theorem s31_ok : lookF Try.prog 31 = some (s31, 16, [.tmp 4, .tmp 5]) := by kernel_rfl
theorem rWrong2_ok (l : List Change) (ls : List Lesson) (hl : ∀ c ∈ l, SmC c) (hs : SmLs ls) : Fn P 31 [sl l, sl ls] (inI (wrongT l ls)) := by
  have c1 := rBoth_ok l ls hl hs
  by_cases h : bothV l ls = 0
  · obtain ⟨h1, h2⟩ := both_0 h
    have c2 := rWrong_ok l ls (kd_all h1) (okLs h2)
    rw [wrongT, if_neg (by simpa using h)]
    rw [h] at c1
    (refine fn_look s31_ok (by simp) (by intro k; simp only [go_sem, Nat.reduceEqDiff, ↓reduceIte, reduceCtorEq, Nat.reduceAdd, Nat.reduceMul, Int.reduceToNat, List.reduceReplicate, Nat.reduceLeDiff, Nat.reduceLT, Int.reduceLT, Int.reduceLE, Int.reduceEq]) fun S hS => cwp_sound _ _ _ _ ?_; simp (maxSteps := 900000) (disch := omega) only [s31, go_sem, Nat.reduceEqDiff, ↓reduceIte, reduceCtorEq, Nat.reduceAdd, Nat.reduceMul, Int.reduceToNat, List.reduceReplicate, Nat.reduceLeDiff, Nat.reduceLT, Int.reduceLT, Int.reduceLE, Int.reduceEq])
    repeat' (first | with_reducible refine inw ?_ | simp (maxSteps := 900000) (disch := omega) only [go_sem, Nat.reduceEqDiff, ↓reduceIte, reduceCtorEq, Nat.reduceAdd, Nat.reduceMul, Int.reduceToNat, List.reduceReplicate, Nat.reduceLeDiff, Nat.reduceLT, Int.reduceLT, Int.reduceLE, Int.reduceEq] | (with_reducible apply call (c1)); (focus simp (maxSteps := 900000) (disch := omega) only [go_sem, Nat.reduceEqDiff, ↓reduceIte, reduceCtorEq, Nat.reduceAdd, Nat.reduceMul, Int.reduceToNat, List.reduceReplicate, Nat.reduceLeDiff, Nat.reduceLT, Int.reduceLT, Int.reduceLE, Int.reduceEq] <;> rfl) | (with_reducible apply call (c2)); (focus simp (maxSteps := 900000) (disch := omega) only [go_sem, Nat.reduceEqDiff, ↓reduceIte, reduceCtorEq, Nat.reduceAdd, Nat.reduceMul, Int.reduceToNat, List.reduceReplicate, Nat.reduceLeDiff, Nat.reduceLT, Int.reduceLT, Int.reduceLE, Int.reduceEq] <;> rfl) | with_reducible refine giv_intro fun _h => ?_ | with_reducible refine alt_intro ?_ fun _h => ?_ | with_reducible refine pickD_nil ?_ | (with_reducible refine brc (fun _h => ?_) fun _h => ?_) <;> first | (exfalso; omega) | simp only [decide_eq_false _h] | simp only [(_h : (_ : Bool) = _)] | simp only [decide_eq_true _h] | skip)
    all_goals first | rfl | (exfalso; omega)
  · rw [wrongT, if_pos h]
    (refine fn_look s31_ok (by simp) (by intro k; simp only [go_sem, Nat.reduceEqDiff, ↓reduceIte, reduceCtorEq, Nat.reduceAdd, Nat.reduceMul, Int.reduceToNat, List.reduceReplicate, Nat.reduceLeDiff, Nat.reduceLT, Int.reduceLT, Int.reduceLE, Int.reduceEq]) fun S hS => cwp_sound _ _ _ _ ?_; simp (maxSteps := 900000) (disch := omega) only [s31, go_sem, Nat.reduceEqDiff, ↓reduceIte, reduceCtorEq, Nat.reduceAdd, Nat.reduceMul, Int.reduceToNat, List.reduceReplicate, Nat.reduceLeDiff, Nat.reduceLT, Int.reduceLT, Int.reduceLE, Int.reduceEq])
    repeat' (first | with_reducible refine inw ?_ | simp (maxSteps := 900000) (disch := omega) only [go_sem, Nat.reduceEqDiff, ↓reduceIte, reduceCtorEq, Nat.reduceAdd, Nat.reduceMul, Int.reduceToNat, List.reduceReplicate, Nat.reduceLeDiff, Nat.reduceLT, Int.reduceLT, Int.reduceLE, Int.reduceEq] | (with_reducible apply call (c1)); (focus simp (maxSteps := 900000) (disch := omega) only [go_sem, Nat.reduceEqDiff, ↓reduceIte, reduceCtorEq, Nat.reduceAdd, Nat.reduceMul, Int.reduceToNat, List.reduceReplicate, Nat.reduceLeDiff, Nat.reduceLT, Int.reduceLT, Int.reduceLE, Int.reduceEq] <;> rfl) | with_reducible refine giv_intro fun _h => ?_ | with_reducible refine alt_intro ?_ fun _h => ?_ | with_reducible refine pickD_nil ?_ | (with_reducible refine brc (fun _h => ?_) fun _h => ?_) <;> first | (exfalso; omega) | simp only [decide_eq_false _h] | simp only [(_h : (_ : Bool) = _)] | simp only [decide_eq_true _h] | skip)
    all_goals first | rfl | (exfalso; omega)

/-! ### Prune -/
def delAt (l : List Change) (i : Nat) : List Change := l.take i ++ l.drop (i + 1)
theorem delAt_len {l : List Change} {i : Nat} (h : i < l.length) : (delAt l i).length = l.length - 1 := by
  rw [delAt, List.length_append, List.length_take, List.length_drop]; omega
theorem delAt_mem {l : List Change} {i : Nat} {c : Change} (h : c ∈ delAt l i) : c ∈ l := by
  rcases List.mem_append.1 h with h | h
  · exact List.mem_of_mem_take h
  · exact List.mem_of_mem_drop h
def pruneF (ls : List Lesson) (all : Nat) : Nat → List Change → List Change
  | 0, out => out
  | i + 1, out => pruneF ls all i (if wrongL (delAt out i) ls ≤ all then delAt out i else out)
def pruneT (l : List Change) (ls : List Lesson) : List Change × Int := if bothV l ls ≠ 0 then ([], bothV l ls) else (pruneF ls (wrongL l ls) l.length l, 0)
/-- slices.Clone[[]ablaut/api.Change,ablaut/api.Change]: 1 parameters, 0 captured -/
def s59 : SC := .seq (.reg [o1 2 (.mv (.c (.slice none 0 0)))])
  (.seq (.seq (.reg [o1 3 (.mv (.t 0)),
     o1 4 (.eq false .slice (.t 3) (.c (.slice none 0 0)))])
    (.cond (.t 4) (.seq (.reg [o1 2 (.mv (.c (.slice none 0 0)))])
      (.ret)) (.skip)))
   (.seq (.reg [o1 5 (.buildSl 32 4 0 [(.string ⟨#[]⟩), (.string ⟨#[]⟩), (.int .i64 0), (.string ⟨#[]⟩)] []),
     o1 6 (.mv (.t 0)),
     o1 7 (.app 32 4 56 (.t 5) (.t 6)),
     o1 2 (.mv (.t 7))])
    (.ret)))
theorem s59_ok : lookF Try.prog 59 = some (s59, 8, [.tmp 2]) := by kernel_rfl
theorem cloneC_own (l : List Change) (h0 : 0 < l.length) (hl : l.length ≤ 200) : FnS P 59 [sl l] (fun S L r => L = [rowO 32 l] ∧ r = own S 0 l) := by
  (refine fnS_look s59_ok (by simp) fun S hS => cwp_sound _ _ _ _ ?_; simp (maxSteps := 900000) (disch := omega) only [s59, go_sem, Nat.reduceEqDiff, ↓reduceIte, reduceCtorEq, Nat.reduceAdd, Nat.reduceMul, Int.reduceToNat, List.reduceReplicate, Nat.reduceLeDiff, Nat.reduceLT, Int.reduceLT, Int.reduceLE, Int.reduceEq])
  repeat' (first | with_reducible refine inw ?_ | simp (maxSteps := 900000) (disch := omega) only [go_sem, Nat.reduceEqDiff, ↓reduceIte, reduceCtorEq, Nat.reduceAdd, Nat.reduceMul, Int.reduceToNat, List.reduceReplicate, Nat.reduceLeDiff, Nat.reduceLT, Int.reduceLT, Int.reduceLE, Int.reduceEq, zc_zero] | with_reducible refine giv_intro fun _h => ?_ | with_reducible refine alt_intro ?_ fun _h => ?_ | with_reducible refine pickD_nil ?_ | (with_reducible refine brc (fun _h => ?_) fun _h => ?_) <;> first | (exfalso; omega) | simp only [decide_eq_false _h] | simp only [(_h : (_ : Bool) = _)] | simp only [decide_eq_true _h] | skip)
  all_goals first | (exfalso; omega) | (simp [own]; done)
theorem cloneC_ok (l : List Change) (hl : l.length ≤ 200) : Fn P 59 [sl l] (sl l) := by
  (refine fn_look s59_ok (by simp) (by intro k; simp only [go_sem, Nat.reduceEqDiff, ↓reduceIte, reduceCtorEq, Nat.reduceAdd, Nat.reduceMul, Int.reduceToNat, List.reduceReplicate, Nat.reduceLeDiff, Nat.reduceLT, Int.reduceLT, Int.reduceLE, Int.reduceEq]) fun S hS => cwp_sound _ _ _ _ ?_; simp (maxSteps := 900000) (disch := omega) only [s59, go_sem, Nat.reduceEqDiff, ↓reduceIte, reduceCtorEq, Nat.reduceAdd, Nat.reduceMul, Int.reduceToNat, List.reduceReplicate, Nat.reduceLeDiff, Nat.reduceLT, Int.reduceLT, Int.reduceLE, Int.reduceEq])
  repeat' (first | with_reducible refine inw ?_ | simp (maxSteps := 900000) (disch := omega) only [go_sem, Nat.reduceEqDiff, ↓reduceIte, reduceCtorEq, Nat.reduceAdd, Nat.reduceMul, Int.reduceToNat, List.reduceReplicate, Nat.reduceLeDiff, Nat.reduceLT, Int.reduceLT, Int.reduceLE, Int.reduceEq, zc_zero] | with_reducible refine giv_intro fun _h => ?_ | with_reducible refine alt_intro ?_ fun _h => ?_ | with_reducible refine pickD_nil ?_ | (with_reducible refine brc (fun _h => ?_) fun _h => ?_) <;> first | (exfalso; omega) | simp only [decide_eq_false _h] | simp only [(_h : (_ : Bool) = _)] | simp only [decide_eq_true _h] | skip)
  rw [List.eq_nil_of_length_eq_zero (by omega : l.length = 0)]; rfl
theorem seenRow_p {α : Type} {k : Nat} [Enc α k] {e n tot : Nat} {l r : List α} {D : Nat → Bool} {S : St} {d : Nat} (h : n = l.length ∧ n * k ≤ tot) : seenRow (some (e, k, cellsL (l ++ r))) 0 n tot (seen D S d) = sl l := by
  obtain ⟨rfl, h⟩ := h
  simp only [seenRow, Nat.zero_add, h, if_true, List.drop_zero]
  rw [cellsL_take, List.take_left, seen_cellsL]
/-- slices.Delete[[]ablaut/api.Change,ablaut/api.Change]: 3 parameters, 0 captured -/
def s60 : SC := .seq (.reg [o1 6 (.mv (.c (.slice none 0 0)))])
  (.seq (.reg [o1 8 (.mv (.t 0)),
    o1 9 (.mv (.t 1)),
    o1 10 (.mv (.t 2)),
    o1 11 (.mv (.t 0)),
    o1 12 (.lenL (.t 11)),
    o1 13 (.sl3 4 (.t 8) (.t 9) (.t 10) (.t 12))])
   (.seq (.seq (.reg [o1 14 (.mv (.t 1)),
      o1 15 (.mv (.t 2)),
      o1 16 (.bin .eql (.t 14) (.t 15))])
     (.cond (.t 16) (.seq (.reg [o1 17 (.mv (.t 0)),
        o1 6 (.mv (.t 17))])
       (.ret)) (.skip)))
    (.seq (.reg [o1 18 (.mv (.t 0)),
      o1 19 (.lenL (.t 18)),
      o1 7 (.mv (.t 19))])
     (.seq (.regE [o1 20 (.mv (.t 0)),
       o1 21 (.mv (.t 1)),
       o1 22 (.sl 4 (.t 20) none (some (.t 21))),
       o1 23 (.mv (.t 0)),
       o1 24 (.mv (.t 2)),
       o1 25 (.sl 4 (.t 23) (some (.t 24)) none),
       o1 26 (.app 32 4 56 (.t 22) (.t 25)),
       o1 0 (.mv (.t 26))])
      (.seq (.reg [o1 27 (.mv (.t 0)),
        o1 28 (.mv (.t 0)),
        o1 29 (.lenL (.t 28)),
        o1 30 (.mv (.t 7)),
        o1 31 (.sl 4 (.t 27) (some (.t 29)) (some (.t 30))),
        o0 (.clr 4 [(.string ⟨#[]⟩), (.string ⟨#[]⟩), (.int .i64 0), (.string ⟨#[]⟩)] (.t 31))])
       (.seq (.reg [o1 32 (.mv (.t 0)),
         o1 6 (.mv (.t 32))])
        (.ret)))))))
theorem s60_ok : lookF Try.prog 60 = some (s60, 33, [.tmp 6]) := by kernel_rfl
/-- ablaut/learn.Prune: 2 parameters, 0 captured -/
def s32 : SC := .seq (.reg [o1 4 (.mv (.c (.slice none 0 0))),
   o1 5 (.mv (cI 0))])
  (.seq (.seq (.reg [o1 11 (.mv (.t 0)),
     o1 12 (.mv (.t 1)),
     o1 13 (.call (.f 56) [(.t 11), (.t 12)]),
     o1 6 (.mv (.t 13))])
    (.seq (.reg [o1 14 (.mv (.t 6)),
      o1 15 (.bin .neq (.t 14) (cI 0))])
     (.cond (.t 15) (.seq (.reg [o1 16 (.mv (.t 6)),
        o1 4 (.mv (.c (.slice none 0 0))),
        o1 5 (.mv (.t 16))])
       (.ret)) (.skip))))
   (.seq (.reg [o1 17 (.mv (.t 0)),
     o1 18 (.call (.f 59) [(.t 17)]),
     o1 7 (.mv (.t 18))])
    (.seq (.reg [o1 19 (.mv (.t 0)),
      o1 20 (.mv (.t 1)),
      o1 21 (.call (.f 57) [(.t 19), (.t 20)]),
      o1 8 (.mv (.t 21))])
     (.seq (.seq (.reg [o1 22 (.mv (.t 7)),
        o1 23 (.lenL (.t 22)),
        o1 24 (.bin .sub (.t 23) (cI 1)),
        o1 9 (.mv (.t 24))])
       (.block 0 (.loop (.seq (.seq (.reg [o1 25 (.mv (.t 9)),
            o1 26 (.bin .geq (.t 25) (cI 0))])
           (.cond (.t 26) (.skip) (.exit 0)))
          (.seq (.block 1 (.seq (.reg [o1 29 (.mv (.t 7)),
              o1 30 (.call (.f 59) [(.t 29)]),
              o1 31 (.mv (.t 9)),
              o1 32 (.mv (.t 9)),
              o1 33 (.bin .add (.t 32) (cI 1)),
              o1 34 (.call (.f 60) [(.t 30), (.t 31), (.t 33)]),
              o1 10 (.mv (.t 34))])
             (.seq (.reg [o1 35 (.mv (.t 10)),
               o1 36 (.mv (.t 1)),
               o1 37 (.call (.f 57) [(.t 35), (.t 36)]),
               o1 38 (.mv (.t 8)),
               o1 39 (.bin .leq (.t 37) (.t 38))])
              (.cond (.t 39) (.reg [o1 40 (.mv (.t 10)),
                o1 7 (.mv (.t 40))]) (.skip)))))
           (.reg [o1 27 (.mv (.t 9)),
            o1 28 (.bin .sub (.t 27) (cI 1)),
            o1 9 (.mv (.t 28))]))))))
      (.seq (.reg [o1 41 (.mv (.t 7)),
        o1 4 (.mv (.t 41)),
        o1 5 (.mv (cI 0))])
       (.ret))))))
theorem s32_ok : lookF Try.prog 32 = some (s32, 42, [.tmp 4, .tmp 5]) := by kernel_rfl
set_option maxHeartbeats 2000000 in
theorem Prune_ok (l : List Change) (ls : List Lesson) (hl : ∀ c ∈ l, SmC c) (hs : SmLs ls) : Fn P 32 [sl l, sl ls] (clI (pruneT l ls)) := by
  have c1 := both_ok l ls hl hs
  by_cases h : bothV l ls = 0
  · obtain ⟨h1, h2⟩ := both_0 h
    have hln := (valC_ok h1).1
    have c2 := wrong_ok l ls (kd_all h1) (okLs h2)
    have c3 := cloneC_ok l (by omega)
    rw [pruneT, if_neg (by simpa using h)]
    rw [h] at c1
    (refine fn_look s32_ok (by simp) (by intro k; simp only [go_sem, Nat.reduceEqDiff, ↓reduceIte, reduceCtorEq, Nat.reduceAdd, Nat.reduceMul, Int.reduceToNat, List.reduceReplicate, Nat.reduceLeDiff, Nat.reduceLT, Int.reduceLT, Int.reduceLE, Int.reduceEq]) fun S hS => cwp_sound _ _ _ _ ?_; simp (maxSteps := 900000) (disch := omega) only [s32, go_sem, Nat.reduceEqDiff, ↓reduceIte, reduceCtorEq, Nat.reduceAdd, Nat.reduceMul, Int.reduceToNat, List.reduceReplicate, Nat.reduceLeDiff, Nat.reduceLT, Int.reduceLT, Int.reduceLE, Int.reduceEq])
    repeat' (first | with_reducible refine inw ?_ | simp (maxSteps := 900000) (disch := omega) only [go_sem, Nat.reduceEqDiff, ↓reduceIte, reduceCtorEq, Nat.reduceAdd, Nat.reduceMul, Int.reduceToNat, List.reduceReplicate, Nat.reduceLeDiff, Nat.reduceLT, Int.reduceLT, Int.reduceLE, Int.reduceEq] | (with_reducible apply call (c1)); (focus simp (maxSteps := 900000) (disch := omega) only [go_sem, Nat.reduceEqDiff, ↓reduceIte, reduceCtorEq, Nat.reduceAdd, Nat.reduceMul, Int.reduceToNat, List.reduceReplicate, Nat.reduceLeDiff, Nat.reduceLT, Int.reduceLT, Int.reduceLE, Int.reduceEq] <;> rfl) | (with_reducible apply call (c3)); (focus simp (maxSteps := 900000) (disch := omega) only [go_sem, Nat.reduceEqDiff, ↓reduceIte, reduceCtorEq, Nat.reduceAdd, Nat.reduceMul, Int.reduceToNat, List.reduceReplicate, Nat.reduceLeDiff, Nat.reduceLT, Int.reduceLT, Int.reduceLE, Int.reduceEq] <;> rfl) | (with_reducible apply call (c2)); (focus simp (maxSteps := 900000) (disch := omega) only [go_sem, Nat.reduceEqDiff, ↓reduceIte, reduceCtorEq, Nat.reduceAdd, Nat.reduceMul, Int.reduceToNat, List.reduceReplicate, Nat.reduceLeDiff, Nat.reduceLT, Int.reduceLT, Int.reduceLE, Int.reduceEq] <;> rfl) | with_reducible refine giv_intro fun _h => ?_ | with_reducible refine alt_intro ?_ fun _h => ?_ | with_reducible refine pickD_nil ?_ | (with_reducible refine brc (fun _h => ?_) fun _h => ?_) <;> first | (exfalso; omega) | simp only [decide_eq_false _h] | simp only [(_h : (_ : Bool) = _)] | simp only [decide_eq_true _h] | skip)
    (refine loopV hS [1, 8] (by simp only [go_sem, Nat.reduceEqDiff, ↓reduceIte, reduceCtorEq, Nat.reduceAdd, Nat.reduceMul, Int.reduceToNat, List.reduceReplicate, Nat.reduceLeDiff, Nat.reduceLT, Int.reduceLT, Int.reduceLE, Int.reduceEq]; try rfl) (fun (⟨out, i⟩ : List Change × Nat) => [(7, sl out), (9, intA ((i : Int) - 1))]) (fun (⟨out, i⟩ : List Change × Nat) => []) (fun (⟨out, i⟩ : List Change × Nat) => i ≤ out.length ∧ out.length ≤ l.length ∧ (∀ c ∈ out, c ∈ l) ∧ pruneF ls (wrongL l ls) l.length l = pruneF ls (wrongL l ls) i out) (fun (⟨out, i⟩ : List Change × Nat) => i) ((l, l.length)) ?h01 ?hn1 ?rd1; case hn1 => (intro s; first | rfl | (rcases s with ⟨_, _⟩; rfl) | (rcases s with ⟨_, _, _⟩; rfl) | (rcases s with ⟨_, _, _, _⟩; rfl) | (rcases s with ⟨_, _, _, _, _⟩; rfl)))
    · simp (maxSteps := 900000) (disch := omega) only [go_sem, Nat.reduceEqDiff, ↓reduceIte, reduceCtorEq, Nat.reduceAdd, Nat.reduceMul, Int.reduceToNat, List.reduceReplicate, Nat.reduceLeDiff, Nat.reduceLT, Int.reduceLT, Int.reduceLE, Int.reduceEq]
      exact fun c hc => hc
    rintro ⟨out, i⟩ ⟨hi, ho, hm, he⟩
    by_cases hi0 : i = 0
    · subst hi0
      repeat' (first | with_reducible refine inw ?_ | simp (maxSteps := 900000) (disch := omega) only [go_sem, Nat.reduceEqDiff, ↓reduceIte, reduceCtorEq, Nat.reduceAdd, Nat.reduceMul, Int.reduceToNat, List.reduceReplicate, Nat.reduceLeDiff, Nat.reduceLT, Int.reduceLT, Int.reduceLE, Int.reduceEq] | with_reducible refine giv_intro fun _h => ?_ | with_reducible refine alt_intro ?_ fun _h => ?_ | with_reducible refine pickD_nil ?_ | (with_reducible refine brc (fun _h => ?_) fun _h => ?_) <;> first | (exfalso; omega) | simp only [decide_eq_false _h] | simp only [(_h : (_ : Bool) = _)] | simp only [decide_eq_true _h] | skip)
      rw [he]; rfl
    · obtain ⟨i, rfl⟩ : ∃ i', i = i' + 1 := ⟨i - 1, by omega⟩
      have hkd : ∀ c ∈ delAt out i, KdC c := fun c hc => kd_all h1 c (hm c (delAt_mem hc))
      have c4 := wrong_ok (delAt out i) ls hkd (okLs h2)
      have ei : (((i + 1 : Nat) : Int) - 1) = (i : Int) := by omega
      replace hi : i + 1 ≤ out.length := hi
      replace ho : out.length ≤ l.length := ho
      repeat' (first | with_reducible refine inw ?_ | simp (maxSteps := 900000) (disch := omega) only [go_sem, Nat.reduceEqDiff, ↓reduceIte, reduceCtorEq, Nat.reduceAdd, Nat.reduceMul, Int.reduceToNat, List.reduceReplicate, Nat.reduceLeDiff, Nat.reduceLT, Int.reduceLT, Int.reduceLE, Int.reduceEq, ei] | with_reducible refine giv_intro fun _h => ?_ | with_reducible refine alt_intro ?_ fun _h => ?_ | with_reducible refine pickD_nil ?_ | (with_reducible refine brc (fun _h => ?_) fun _h => ?_) <;> first | (exfalso; omega) | simp only [decide_eq_false _h] | simp only [(_h : (_ : Bool) = _)] | simp only [decide_eq_true _h] | skip)
      refine callN (cloneC_own out (by omega) (by omega)) rfl ?_
      rintro L' r ⟨rfl, rfl⟩
      simp only [own, nm_stk, List.nil_append, List.length_nil, Nat.zero_add]
      have et : ((i : Int) + 1).toNat = i + 1 := by omega
      obtain ⟨m, hm2⟩ : ∃ m, out.length = i + 1 + m := ⟨out.length - (i + 1), by omega⟩
      have em : out.length - (i + 1) = m := by omega
      have hif : ((i + 1) * 4 + m * 4 ≤ out.length * 4) = True := eq_true (by omega)
      have eL : (out.drop (i + 1)).length = m := by rw [List.length_drop]; omega
      have eS : ((cellsL out).drop ((i + 1) * 4)).take (m * 4) = cellsL (out.drop (i + 1)) := by
        rw [cellsL_drop, List.take_of_length_le (by rw [cellsL_len, eL]; exact Nat.le_refl _)]
      have eD : (delAt out i).length = i + m := by rw [delAt_len (by omega)]; omega
      have eX : (out.drop (i + m)).length = 1 := by rw [List.length_drop]; omega
      have eA : (cellsL out).take (i * 4) ++ cellsL (out.drop (i + 1)) ++ (cellsL out).drop ((i + m) * 4) = cellsL (delAt out i ++ out.drop (i + m)) := by
        rw [cellsL_take, cellsL_drop, cellsL_app, cellsL_app]; rfl
      have eW : (delAt out i ++ out.drop (i + m)).length = out.length := by rw [List.length_append, eD, eX]; omega
      have eB : (cellsL (delAt out i ++ out.drop (i + m))).take ((i + m) * 4) ++ [strA ⟨#[]⟩, strA ⟨#[]⟩, intA 0, strA ⟨#[]⟩] ++ (cellsL (delAt out i ++ out.drop (i + m))).drop ((i + m) * 4 + 4) = cellsL (delAt out i ++ [dfC]) := by
        have e4 : (i + m) * 4 + 4 = (i + m + 1) * 4 := by omega
        rw [e4, cellsL_take, cellsL_drop, List.take_left' eD, List.drop_eq_nil_of_le (by rw [eW]; omega), ← cellsL_app]
        show _ ++ [] = _
        rw [List.append_nil]; rfl
      have e1 : out.length - (i + m) = 1 := by omega
      have eV : (delAt out i ++ [dfC]).length = out.length := by rw [List.length_append, eD, List.length_singleton]; omega
      have eQ : ∀ (e : Nat) (D : Nat → Bool) (S : St) (d : Nat), seenRow (some (e, 4, cellsL (delAt out i ++ [dfC]))) 0 (i + m) (out.length * 4) (seen D S d) = sl (delAt out i) := fun e D S d => seenRow_p ⟨eD.symm, by omega⟩
      repeat' (first | with_reducible refine inw ?_ | simp (maxSteps := 900000) (disch := omega) only [go_sem, Nat.reduceEqDiff, ↓reduceIte, reduceCtorEq, Nat.reduceAdd, Nat.reduceMul, Int.reduceToNat, List.reduceReplicate, Nat.reduceLeDiff, Nat.reduceLT, Int.reduceLT, Int.reduceLE, Int.reduceEq, ei, et, em, e1, eS, eL, eA, eB, eQ, eV, eW, hif, if_true, true_or, or_true, Nat.zero_add, Nat.sub_zero, Nat.one_mul, ax_room] | (with_reducible refine callI s60_ok (by simp) hS (cwp_sound _ _ _ _ ?_)); simp (maxSteps := 900000) (disch := omega) only [s60, go_sem, Nat.reduceEqDiff, ↓reduceIte, reduceCtorEq, Nat.reduceAdd, Nat.reduceMul, Int.reduceToNat, List.reduceReplicate, Nat.reduceLeDiff, Nat.reduceLT, Int.reduceLT, Int.reduceLE, Int.reduceEq, ei, et, em, e1, eS, eL, eA, eB, eQ, eV, eW, hif, if_true, true_or, or_true, Nat.zero_add, Nat.sub_zero, Nat.one_mul, ax_room] | (with_reducible apply call_lend (c4)); (focus simp (maxSteps := 900000) (disch := omega) only [go_sem, Nat.reduceEqDiff, ↓reduceIte, reduceCtorEq, Nat.reduceAdd, Nat.reduceMul, Int.reduceToNat, List.reduceReplicate, Nat.reduceLeDiff, Nat.reduceLT, Int.reduceLT, Int.reduceLE, Int.reduceEq, ei, et, em, e1, eS, eL, eA, eB, eQ, eV, eW, hif, if_true, true_or, or_true, Nat.zero_add, Nat.sub_zero, Nat.one_mul, ax_room] <;> rfl); (focus rfl) | with_reducible refine giv_intro fun _h => ?_ | with_reducible refine alt_intro ?_ fun _h => ?_ | with_reducible refine pickD_nil ?_ | (with_reducible refine brc (fun _h => ?_) fun _h => ?_) <;> first | (exfalso; omega) | simp only [decide_eq_false _h] | simp only [(_h : (_ : Bool) = _)] | simp only [decide_eq_true _h] | skip)
      · have hw : wrongL (delAt out i) ls ≤ wrongL l ls := by omega
        refine viewed_of (View.freezeP 7 0 32 (out.length * 4) (delAt out i) (by rw [eD]; exact .inl rfl) (by rw [rowAt_zero, if_pos (by rw [cellsL_len, eV])]) (by rw [cellsL_take, List.take_left]) (by rw [eD]; omega) (by simp)) (viewed_done ?_)
        simp (maxSteps := 900000) (disch := omega) only [go_sem, Nat.reduceEqDiff, ↓reduceIte, reduceCtorEq, Nat.reduceAdd, Nat.reduceMul, Int.reduceToNat, List.reduceReplicate, Nat.reduceLeDiff, Nat.reduceLT, Int.reduceLT, Int.reduceLE, Int.reduceEq]
        refine ⟨(delAt out i, i), ⟨by omega, by show i ≤ (delAt out i).length; omega, by show (delAt out i).length ≤ _; omega, fun c hc => hm c (delAt_mem hc), ?_⟩, ?_⟩
        · rw [he]
          show pruneF ls (wrongL l ls) i (if _ then _ else _) = _
          rw [if_pos hw]
        · exact ⟨⟨rfl, rfl⟩, rfl⟩
      · have hw : ¬wrongL (delAt out i) ls ≤ wrongL l ls := by omega
        refine viewed_done ?_
        simp (maxSteps := 900000) (disch := omega) only [go_sem, Nat.reduceEqDiff, ↓reduceIte, reduceCtorEq, Nat.reduceAdd, Nat.reduceMul, Int.reduceToNat, List.reduceReplicate, Nat.reduceLeDiff, Nat.reduceLT, Int.reduceLT, Int.reduceLE, Int.reduceEq]
        refine ⟨(out, i), ⟨by omega, by show i ≤ out.length; omega, ho, hm, ?_⟩, ?_⟩
        · rw [he]
          show pruneF ls (wrongL l ls) i (if _ then _ else _) = _
          rw [if_neg hw]
        · exact ⟨⟨rfl, rfl⟩, rfl⟩
  · rw [pruneT, if_pos h]
    (refine fn_look s32_ok (by simp) (by intro k; simp only [go_sem, Nat.reduceEqDiff, ↓reduceIte, reduceCtorEq, Nat.reduceAdd, Nat.reduceMul, Int.reduceToNat, List.reduceReplicate, Nat.reduceLeDiff, Nat.reduceLT, Int.reduceLT, Int.reduceLE, Int.reduceEq]) fun S hS => cwp_sound _ _ _ _ ?_; simp (maxSteps := 900000) (disch := omega) only [s32, go_sem, Nat.reduceEqDiff, ↓reduceIte, reduceCtorEq, Nat.reduceAdd, Nat.reduceMul, Int.reduceToNat, List.reduceReplicate, Nat.reduceLeDiff, Nat.reduceLT, Int.reduceLT, Int.reduceLE, Int.reduceEq])
    repeat' (first | with_reducible refine inw ?_ | simp (maxSteps := 900000) (disch := omega) only [go_sem, Nat.reduceEqDiff, ↓reduceIte, reduceCtorEq, Nat.reduceAdd, Nat.reduceMul, Int.reduceToNat, List.reduceReplicate, Nat.reduceLeDiff, Nat.reduceLT, Int.reduceLT, Int.reduceLE, Int.reduceEq] | (with_reducible apply call (c1)); (focus simp (maxSteps := 900000) (disch := omega) only [go_sem, Nat.reduceEqDiff, ↓reduceIte, reduceCtorEq, Nat.reduceAdd, Nat.reduceMul, Int.reduceToNat, List.reduceReplicate, Nat.reduceLeDiff, Nat.reduceLT, Int.reduceLT, Int.reduceLE, Int.reduceEq] <;> rfl) | with_reducible refine giv_intro fun _h => ?_ | with_reducible refine alt_intro ?_ fun _h => ?_ | with_reducible refine pickD_nil ?_ | (with_reducible refine brc (fun _h => ?_) fun _h => ?_) <;> first | (exfalso; omega) | simp only [decide_eq_false _h] | simp only [(_h : (_ : Bool) = _)] | simp only [decide_eq_true _h] | skip)
    all_goals first | rfl | (exfalso; omega)
/-- ablaut/ablautref22.Prune: 2 parameters, 0 captured -/
def s33 : SC := .seq (.reg [o1 4 (.mv (.c (.slice none 0 0))),
   o1 5 (.mv (cI 0))])
  (.seq (.seq (.reg [o1 11 (.mv (.t 0)),
     o1 12 (.mv (.t 1)),
     o1 13 (.call (.f 58) [(.t 11), (.t 12)]),
     o1 6 (.mv (.t 13))])
    (.seq (.reg [o1 14 (.mv (.t 6)),
      o1 15 (.bin .neq (.t 14) (cI 0))])
     (.cond (.t 15) (.seq (.reg [o1 16 (.mv (.t 6)),
        o1 4 (.mv (.c (.slice none 0 0))),
        o1 5 (.mv (.t 16))])
       (.ret)) (.skip))))
   (.seq (.reg [o1 17 (.mv (.t 0)),
     o1 18 (.mv (.t 1)),
     o1 19 (.call (.f 45) [(.t 17), (.t 18)]),
     o1 7 (.mv (.t 19))])
    (.seq (.reg [o1 20 (.mv (.t 0)),
      o1 21 (.app 32 4 56 (.c (.slice none 0 0)) (.t 20)),
      o1 8 (.mv (.t 21))])
     (.seq (.seq (.reg [o1 22 (.mv (.t 8)),
        o1 23 (.lenL (.t 22)),
        o1 24 (.bin .sub (.t 23) (cI 1)),
        o1 9 (.mv (.t 24))])
       (.block 0 (.loop (.seq (.seq (.reg [o1 25 (.mv (.t 9)),
            o1 26 (.bin .geq (.t 25) (cI 0))])
           (.cond (.t 26) (.skip) (.exit 0)))
          (.seq (.block 1 (.seq (.regG [(true, o1 29 (.mv (.t 8))),
              (true, o1 30 (.mv (.t 9))),
              (true, o1 31 (.sl 4 (.t 29) none (some (.t 30)))),
              (true, o1 33 (.mv (.t 8))),
              (true, o1 34 (.mv (.t 9))),
              (true, o1 35 (.bin .add (.t 34) (cI 1))),
              (true, o1 36 (.sl 4 (.t 33) (some (.t 35)) none)),
              (true, o1 32 (.app 32 4 56 (.c (.slice none 0 0)) (.t 31))),
              (false, o1 37 (.app 32 4 56 (.t 32) (.t 36))),
              (false, o1 10 (.mv (.t 37)))])
             (.seq (.reg [o1 38 (.mv (.t 10)),
               o1 39 (.mv (.t 1)),
               o1 40 (.call (.f 45) [(.t 38), (.t 39)]),
               o1 41 (.mv (.t 7)),
               o1 42 (.bin .leq (.t 40) (.t 41))])
              (.cond (.t 42) (.reg [o1 43 (.mv (.t 10)),
                o1 8 (.mv (.t 43))]) (.skip)))))
           (.reg [o1 27 (.mv (.t 9)),
            o1 28 (.bin .sub (.t 27) (cI 1)),
            o1 9 (.mv (.t 28))]))))))
      (.seq (.reg [o1 44 (.mv (.t 8)),
        o1 4 (.mv (.t 44)),
        o1 5 (.mv (cI 0))])
       (.ret))))))
theorem s33_ok : lookF Try.prog 33 = some (s33, 45, [.tmp 4, .tmp 5]) := by kernel_rfl
set_option maxHeartbeats 2000000 in
theorem rPrune_ok (l : List Change) (ls : List Lesson) (hl : ∀ c ∈ l, SmC c) (hs : SmLs ls) : Fn P 33 [sl l, sl ls] (clI (pruneT l ls)) := by
  have c1 := rBoth_ok l ls hl hs
  by_cases h : bothV l ls = 0
  · obtain ⟨h1, h2⟩ := both_0 h
    have hln := (valC_ok h1).1
    have c2 := rWrong_ok l ls (kd_all h1) (okLs h2)
    rw [pruneT, if_neg (by simpa using h)]
    rw [h] at c1
    (refine fn_look s33_ok (by simp) (by intro k; simp only [go_sem, Nat.reduceEqDiff, ↓reduceIte, reduceCtorEq, Nat.reduceAdd, Nat.reduceMul, Int.reduceToNat, List.reduceReplicate, Nat.reduceLeDiff, Nat.reduceLT, Int.reduceLT, Int.reduceLE, Int.reduceEq]) fun S hS => cwp_sound _ _ _ _ ?_; simp (maxSteps := 900000) (disch := omega) only [s33, go_sem, Nat.reduceEqDiff, ↓reduceIte, reduceCtorEq, Nat.reduceAdd, Nat.reduceMul, Int.reduceToNat, List.reduceReplicate, Nat.reduceLeDiff, Nat.reduceLT, Int.reduceLT, Int.reduceLE, Int.reduceEq])
    rcases Nat.eq_zero_or_pos l.length with hz | hz
    · obtain rfl := List.eq_nil_of_length_eq_zero hz
      repeat' (first | with_reducible refine inw ?_ | simp (maxSteps := 900000) (disch := omega) only [go_sem, Nat.reduceEqDiff, ↓reduceIte, reduceCtorEq, Nat.reduceAdd, Nat.reduceMul, Int.reduceToNat, List.reduceReplicate, Nat.reduceLeDiff, Nat.reduceLT, Int.reduceLT, Int.reduceLE, Int.reduceEq] | (with_reducible apply call (c1)); (focus simp (maxSteps := 900000) (disch := omega) only [go_sem, Nat.reduceEqDiff, ↓reduceIte, reduceCtorEq, Nat.reduceAdd, Nat.reduceMul, Int.reduceToNat, List.reduceReplicate, Nat.reduceLeDiff, Nat.reduceLT, Int.reduceLT, Int.reduceLE, Int.reduceEq] <;> rfl) | (with_reducible apply call (c2)); (focus simp (maxSteps := 900000) (disch := omega) only [go_sem, Nat.reduceEqDiff, ↓reduceIte, reduceCtorEq, Nat.reduceAdd, Nat.reduceMul, Int.reduceToNat, List.reduceReplicate, Nat.reduceLeDiff, Nat.reduceLT, Int.reduceLT, Int.reduceLE, Int.reduceEq] <;> rfl) | with_reducible refine giv_intro fun _h => ?_ | with_reducible refine alt_intro ?_ fun _h => ?_ | with_reducible refine pickD_nil ?_ | (with_reducible refine brc (fun _h => ?_) fun _h => ?_) <;> first | (exfalso; omega) | simp only [decide_eq_false _h] | simp only [(_h : (_ : Bool) = _)] | simp only [decide_eq_true _h] | skip)
      (refine loopC hS [1, 7] (by simp only [go_sem, Nat.reduceEqDiff, ↓reduceIte, reduceCtorEq, Nat.reduceAdd, Nat.reduceMul, Int.reduceToNat, List.reduceReplicate, Nat.reduceLeDiff, Nat.reduceLT, Int.reduceLT, Int.reduceLE, Int.reduceEq]; try rfl) (fun (i : Nat) => [(8, sl ([] : List Change)), (9, intA (-1))]) (fun (i : Nat) => []) (fun (i : Nat) => True) (fun (i : Nat) => i) (0) ?h02 ?hn2 ?rd2; case hn2 => (intro s; first | rfl | (rcases s with ⟨_, _⟩; rfl) | (rcases s with ⟨_, _, _⟩; rfl) | (rcases s with ⟨_, _, _, _⟩; rfl) | (rcases s with ⟨_, _, _, _, _⟩; rfl)))
      · simp (maxSteps := 900000) (disch := omega) only [go_sem, Nat.reduceEqDiff, ↓reduceIte, reduceCtorEq, Nat.reduceAdd, Nat.reduceMul, Int.reduceToNat, List.reduceReplicate, Nat.reduceLeDiff, Nat.reduceLT, Int.reduceLT, Int.reduceLE, Int.reduceEq]
        rfl
      rintro i _
      repeat' (first | with_reducible refine inw ?_ | simp (maxSteps := 900000) (disch := omega) only [go_sem, Nat.reduceEqDiff, ↓reduceIte, reduceCtorEq, Nat.reduceAdd, Nat.reduceMul, Int.reduceToNat, List.reduceReplicate, Nat.reduceLeDiff, Nat.reduceLT, Int.reduceLT, Int.reduceLE, Int.reduceEq] | with_reducible refine giv_intro fun _h => ?_ | with_reducible refine alt_intro ?_ fun _h => ?_ | with_reducible refine pickD_nil ?_ | (with_reducible refine brc (fun _h => ?_) fun _h => ?_) <;> first | (exfalso; omega) | simp only [decide_eq_false _h] | simp only [(_h : (_ : Bool) = _)] | simp only [decide_eq_true _h] | skip)
      rfl
    repeat' (first | with_reducible refine inw ?_ | simp (maxSteps := 900000) (disch := omega) only [go_sem, Nat.reduceEqDiff, ↓reduceIte, reduceCtorEq, Nat.reduceAdd, Nat.reduceMul, Int.reduceToNat, List.reduceReplicate, Nat.reduceLeDiff, Nat.reduceLT, Int.reduceLT, Int.reduceLE, Int.reduceEq] | (with_reducible apply call (c1)); (focus simp (maxSteps := 900000) (disch := omega) only [go_sem, Nat.reduceEqDiff, ↓reduceIte, reduceCtorEq, Nat.reduceAdd, Nat.reduceMul, Int.reduceToNat, List.reduceReplicate, Nat.reduceLeDiff, Nat.reduceLT, Int.reduceLT, Int.reduceLE, Int.reduceEq] <;> rfl) | (with_reducible apply call (c2)); (focus simp (maxSteps := 900000) (disch := omega) only [go_sem, Nat.reduceEqDiff, ↓reduceIte, reduceCtorEq, Nat.reduceAdd, Nat.reduceMul, Int.reduceToNat, List.reduceReplicate, Nat.reduceLeDiff, Nat.reduceLT, Int.reduceLT, Int.reduceLE, Int.reduceEq] <;> rfl) | with_reducible refine giv_intro fun _h => ?_ | with_reducible refine alt_intro ?_ fun _h => ?_ | with_reducible refine pickD_nil ?_ | (with_reducible refine brc (fun _h => ?_) fun _h => ?_) <;> first | (exfalso; omega) | simp only [decide_eq_false _h] | simp only [(_h : (_ : Bool) = _)] | simp only [decide_eq_true _h] | skip)
    all_goals first | (exfalso; omega) | skip
    refine freezeF 8 0 32 l (by simp (maxSteps := 900000) (disch := omega) only [go_sem, Nat.reduceEqDiff, ↓reduceIte, reduceCtorEq, Nat.reduceAdd, Nat.reduceMul, Int.reduceToNat, List.reduceReplicate, Nat.reduceLeDiff, Nat.reduceLT, Int.reduceLT, Int.reduceLE, Int.reduceEq]) (by simp (maxSteps := 900000) (disch := omega) only [go_sem, Nat.reduceEqDiff, ↓reduceIte, reduceCtorEq, Nat.reduceAdd, Nat.reduceMul, Int.reduceToNat, List.reduceReplicate, Nat.reduceLeDiff, Nat.reduceLT, Int.reduceLT, Int.reduceLE, Int.reduceEq]) (by simp) ?_
    (refine loopV hS [1, 7] (by simp only [go_sem, Nat.reduceEqDiff, ↓reduceIte, reduceCtorEq, Nat.reduceAdd, Nat.reduceMul, Int.reduceToNat, List.reduceReplicate, Nat.reduceLeDiff, Nat.reduceLT, Int.reduceLT, Int.reduceLE, Int.reduceEq]; try rfl) (fun (⟨out, i⟩ : List Change × Nat) => [(8, sl out), (9, intA ((i : Int) - 1))]) (fun (⟨out, i⟩ : List Change × Nat) => [none]) (fun (⟨out, i⟩ : List Change × Nat) => i ≤ out.length ∧ out.length ≤ l.length ∧ (∀ c ∈ out, c ∈ l) ∧ pruneF ls (wrongL l ls) l.length l = pruneF ls (wrongL l ls) i out) (fun (⟨out, i⟩ : List Change × Nat) => i) ((l, l.length)) ?h03 ?hn3 ?rd3; case hn3 => (intro s; first | rfl | (rcases s with ⟨_, _⟩; rfl) | (rcases s with ⟨_, _, _⟩; rfl) | (rcases s with ⟨_, _, _, _⟩; rfl) | (rcases s with ⟨_, _, _, _, _⟩; rfl)))
    · simp (maxSteps := 900000) (disch := omega) only [go_sem, Nat.reduceEqDiff, ↓reduceIte, reduceCtorEq, Nat.reduceAdd, Nat.reduceMul, Int.reduceToNat, List.reduceReplicate, Nat.reduceLeDiff, Nat.reduceLT, Int.reduceLT, Int.reduceLE, Int.reduceEq]
      exact fun c hc => hc
    rintro ⟨out, i⟩ ⟨hi, ho, hm, he⟩
    by_cases hi0 : i = 0
    · subst hi0
      repeat' (first | with_reducible refine inw ?_ | simp (maxSteps := 900000) (disch := omega) only [go_sem, Nat.reduceEqDiff, ↓reduceIte, reduceCtorEq, Nat.reduceAdd, Nat.reduceMul, Int.reduceToNat, List.reduceReplicate, Nat.reduceLeDiff, Nat.reduceLT, Int.reduceLT, Int.reduceLE, Int.reduceEq] | with_reducible refine giv_intro fun _h => ?_ | with_reducible refine alt_intro ?_ fun _h => ?_ | with_reducible refine pickD_nil ?_ | (with_reducible refine brc (fun _h => ?_) fun _h => ?_) <;> first | (exfalso; omega) | simp only [decide_eq_false _h] | simp only [(_h : (_ : Bool) = _)] | simp only [decide_eq_true _h] | skip)
      rw [he]; rfl
    · obtain ⟨i, rfl⟩ : ∃ i', i = i' + 1 := ⟨i - 1, by omega⟩
      have hkd : ∀ c ∈ delAt out i, KdC c := fun c hc => kd_all h1 c (hm c (delAt_mem hc))
      have c4 := rWrong_ok (delAt out i) ls hkd (okLs h2)
      have ei : (((i + 1 : Nat) : Int) - 1) = (i : Int) := by omega
      replace hi : i + 1 ≤ out.length := hi
      replace ho : out.length ≤ l.length := ho
      have et : ((i : Int) + 1).toNat = i + 1 := by omega
      obtain ⟨m, hm2⟩ : ∃ m, out.length = i + 1 + m := ⟨out.length - (i + 1), by omega⟩
      have em : out.length - (i + 1) = m := by omega
      have eD : (delAt out i).length = i + m := by rw [delAt_len (by omega)]; omega
      have eS : ((cellsL out).drop ((i + 1) * 4)).take (m * 4) = cellsL (out.drop (i + 1)) := by
        rw [cellsL_drop, List.take_of_length_le (by rw [cellsL_len, List.length_drop]; omega)]
      have eT : (cellsL out).take (i * 4) = cellsL (out.take i) := cellsL_take _ _
      have eA : cellsL (out.take i) ++ cellsL (out.drop (i + 1)) = cellsL (delAt out i) := by rw [cellsL_app]; rfl
      have eTl : (out.take i).length = i := by rw [List.length_take]; omega
      have eDl : (out.drop (i + 1)).length = m := by rw [List.length_drop]; omega
      have hwy : wrongL (delAt out i) ls ≤ wrongL l ls → pruneF ls (wrongL l ls) l.length l = pruneF ls (wrongL l ls) i (delAt out i) := fun hw => by
        rw [he]
        show pruneF ls (wrongL l ls) i (if _ then _ else _) = _
        rw [if_pos hw]
      have hwn : ¬wrongL (delAt out i) ls ≤ wrongL l ls → pruneF ls (wrongL l ls) l.length l = pruneF ls (wrongL l ls) i out := fun hw => by
        rw [he]
        show pruneF ls (wrongL l ls) i (if _ then _ else _) = _
        rw [if_neg hw]
      by_cases hi1 : i = 0
      · have eA0 : out.drop (i + 1) = delAt out i := by rw [hi1]; rfl
        have eU : (delAt out i).take m = delAt out i := List.take_of_length_le (by omega)
        by_cases hm0 : m = 0
        · have e0 : delAt out i = [] := List.eq_nil_of_length_eq_zero (by omega)
          rw [e0] at c4
          repeat' (first | with_reducible refine inw ?_ | simp (maxSteps := 900000) (disch := omega) only [go_sem, Nat.reduceEqDiff, ↓reduceIte, reduceCtorEq, Nat.reduceAdd, Nat.reduceMul, Int.reduceToNat, List.reduceReplicate, Nat.reduceLeDiff, Nat.reduceLT, Int.reduceLT, Int.reduceLE, Int.reduceEq, ei, et, em, eS, eT, eTl, eA0, eU, e0, Nat.sub_zero, ax_room] | (with_reducible apply call (c4)); (focus simp (maxSteps := 900000) (disch := omega) only [go_sem, Nat.reduceEqDiff, ↓reduceIte, reduceCtorEq, Nat.reduceAdd, Nat.reduceMul, Int.reduceToNat, List.reduceReplicate, Nat.reduceLeDiff, Nat.reduceLT, Int.reduceLT, Int.reduceLE, Int.reduceEq, ei, et, em, eS, eT, eTl, eA0, eU, e0, Nat.sub_zero, ax_room] <;> rfl) | with_reducible refine giv_intro fun _h => ?_ | with_reducible refine alt_intro ?_ fun _h => ?_ | with_reducible refine pickD_nil ?_ | (with_reducible refine brc (fun _h => ?_) fun _h => ?_) <;> first | (exfalso; omega) | simp only [decide_eq_false _h] | simp only [(_h : (_ : Bool) = _)] | simp only [decide_eq_true _h] | skip)
          · have hw : wrongL ([]) ls ≤ wrongL l ls := by omega
            refine viewed_done ?_
            simp (maxSteps := 900000) (disch := omega) only [go_sem, Nat.reduceEqDiff, ↓reduceIte, reduceCtorEq, Nat.reduceAdd, Nat.reduceMul, Int.reduceToNat, List.reduceReplicate, Nat.reduceLeDiff, Nat.reduceLT, Int.reduceLT, Int.reduceLE, Int.reduceEq, List.set_cons_zero, List.set_cons_succ]
            exact ⟨([], i), ⟨by omega, by show i ≤ ([]).length; rw [List.length_nil]; omega, by show ([]).length ≤ _; rw [List.length_nil]; omega, fun c hc => absurd hc (List.not_mem_nil), (hwy (by rw [e0]; exact hw)).trans (by rw [e0])⟩, ⟨rfl, rfl⟩, rfl⟩
          · have hw : ¬wrongL ([]) ls ≤ wrongL l ls := by omega
            refine viewed_done ?_
            simp (maxSteps := 900000) (disch := omega) only [go_sem, Nat.reduceEqDiff, ↓reduceIte, reduceCtorEq, Nat.reduceAdd, Nat.reduceMul, Int.reduceToNat, List.reduceReplicate, Nat.reduceLeDiff, Nat.reduceLT, Int.reduceLT, Int.reduceLE, Int.reduceEq]
            exact ⟨(out, i), ⟨by omega, by show i ≤ out.length; omega, ho, hm, hwn (by rw [e0]; exact hw)⟩, ⟨rfl, rfl⟩, rfl⟩
        · repeat' (first | with_reducible refine inw ?_ | simp (maxSteps := 900000) (disch := omega) only [go_sem, Nat.reduceEqDiff, ↓reduceIte, reduceCtorEq, Nat.reduceAdd, Nat.reduceMul, Int.reduceToNat, List.reduceReplicate, Nat.reduceLeDiff, Nat.reduceLT, Int.reduceLT, Int.reduceLE, Int.reduceEq, ei, et, em, eS, eT, eTl, eA0, eU, eD, Nat.sub_zero, ax_room] | (with_reducible apply call_lend (c4)); (focus simp (maxSteps := 900000) (disch := omega) only [go_sem, Nat.reduceEqDiff, ↓reduceIte, reduceCtorEq, Nat.reduceAdd, Nat.reduceMul, Int.reduceToNat, List.reduceReplicate, Nat.reduceLeDiff, Nat.reduceLT, Int.reduceLT, Int.reduceLE, Int.reduceEq, ei, et, em, eS, eT, eTl, eA0, eU, eD, Nat.sub_zero, ax_room] <;> rfl); (focus rfl) | with_reducible refine giv_intro fun _h => ?_ | with_reducible refine alt_intro ?_ fun _h => ?_ | with_reducible refine pickD_nil ?_ | (with_reducible refine brc (fun _h => ?_) fun _h => ?_) <;> first | (exfalso; omega) | simp only [decide_eq_false _h] | simp only [(_h : (_ : Bool) = _)] | simp only [decide_eq_true _h] | skip)
          · have hw : wrongL (delAt out i) ls ≤ wrongL l ls := by omega
            refine viewed_of (View.freezeP 8 1 32 ((i + m) * 4) (delAt out i) (by rw [eD]; exact .inl rfl) (by rw [rowAt_succ, rowAt_zero, if_pos (by rw [cellsL_len, eD])]) (List.take_of_length_le (by rw [cellsL_len]; exact Nat.le_refl _)) (by rw [eD]; exact Nat.le_refl _) (by simp)) (viewed_done ?_)
            simp (maxSteps := 900000) (disch := omega) only [go_sem, Nat.reduceEqDiff, ↓reduceIte, reduceCtorEq, Nat.reduceAdd, Nat.reduceMul, Int.reduceToNat, List.reduceReplicate, Nat.reduceLeDiff, Nat.reduceLT, Int.reduceLT, Int.reduceLE, Int.reduceEq, List.set_cons_zero, List.set_cons_succ]
            exact ⟨(delAt out i, i), ⟨by omega, by show i ≤ (delAt out i).length; omega, by show (delAt out i).length ≤ _; omega, fun c hc => hm c (delAt_mem hc), hwy hw⟩, ⟨rfl, rfl⟩, rfl⟩
          · have hw : ¬wrongL (delAt out i) ls ≤ wrongL l ls := by omega
            refine viewed_done ?_
            simp (maxSteps := 900000) (disch := omega) only [go_sem, Nat.reduceEqDiff, ↓reduceIte, reduceCtorEq, Nat.reduceAdd, Nat.reduceMul, Int.reduceToNat, List.reduceReplicate, Nat.reduceLeDiff, Nat.reduceLT, Int.reduceLT, Int.reduceLE, Int.reduceEq]
            exact ⟨(out, i), ⟨by omega, by show i ≤ out.length; omega, ho, hm, hwn hw⟩, ⟨rfl, rfl⟩, rfl⟩
      · have eU : (out.drop (i + 1)).take m = out.drop (i + 1) := List.take_of_length_le (by omega)
        repeat' (first | with_reducible refine inw ?_ | simp (maxSteps := 900000) (disch := omega) only [go_sem, Nat.reduceEqDiff, ↓reduceIte, reduceCtorEq, Nat.reduceAdd, Nat.reduceMul, Int.reduceToNat, List.reduceReplicate, Nat.reduceLeDiff, Nat.reduceLT, Int.reduceLT, Int.reduceLE, Int.reduceEq, ei, et, em, eS, eT, eA, eTl, eDl, eU, eD, Nat.sub_zero, ax_room] | (with_reducible apply call_lend (c4)); (focus simp (maxSteps := 900000) (disch := omega) only [go_sem, Nat.reduceEqDiff, ↓reduceIte, reduceCtorEq, Nat.reduceAdd, Nat.reduceMul, Int.reduceToNat, List.reduceReplicate, Nat.reduceLeDiff, Nat.reduceLT, Int.reduceLT, Int.reduceLE, Int.reduceEq, ei, et, em, eS, eT, eA, eTl, eDl, eU, eD, Nat.sub_zero, ax_room] <;> rfl); (focus rfl) | with_reducible refine giv_intro fun _h => ?_ | with_reducible refine alt_intro ?_ fun _h => ?_ | with_reducible refine pickD_nil ?_ | (with_reducible refine brc (fun _h => ?_) fun _h => ?_) <;> first | (exfalso; omega) | simp only [decide_eq_false _h] | simp only [(_h : (_ : Bool) = _)] | simp only [decide_eq_true _h] | skip)
        · have hw : wrongL (delAt out i) ls ≤ wrongL l ls := by omega
          refine viewed_of (View.freezeP 8 1 32 ((i + m) * 4) (delAt out i) (by rw [eD]; exact .inl rfl) (by rw [rowAt_succ, rowAt_zero, if_pos (by rw [cellsL_len, eD])]) (List.take_of_length_le (by rw [cellsL_len]; exact Nat.le_refl _)) (by rw [eD]; exact Nat.le_refl _) (by simp)) (viewed_done ?_)
          simp (maxSteps := 900000) (disch := omega) only [go_sem, Nat.reduceEqDiff, ↓reduceIte, reduceCtorEq, Nat.reduceAdd, Nat.reduceMul, Int.reduceToNat, List.reduceReplicate, Nat.reduceLeDiff, Nat.reduceLT, Int.reduceLT, Int.reduceLE, Int.reduceEq, List.set_cons_zero, List.set_cons_succ]
          exact ⟨(delAt out i, i), ⟨by omega, by show i ≤ (delAt out i).length; omega, by show (delAt out i).length ≤ _; omega, fun c hc => hm c (delAt_mem hc), hwy hw⟩, ⟨rfl, rfl⟩, rfl⟩
        · have hw : ¬wrongL (delAt out i) ls ≤ wrongL l ls := by omega
          refine viewed_done ?_
          simp (maxSteps := 900000) (disch := omega) only [go_sem, Nat.reduceEqDiff, ↓reduceIte, reduceCtorEq, Nat.reduceAdd, Nat.reduceMul, Int.reduceToNat, List.reduceReplicate, Nat.reduceLeDiff, Nat.reduceLT, Int.reduceLT, Int.reduceLE, Int.reduceEq]
          exact ⟨(out, i), ⟨by omega, by show i ≤ out.length; omega, ho, hm, hwn hw⟩, ⟨rfl, rfl⟩, rfl⟩
  · rw [pruneT, if_pos h]
    (refine fn_look s33_ok (by simp) (by intro k; simp only [go_sem, Nat.reduceEqDiff, ↓reduceIte, reduceCtorEq, Nat.reduceAdd, Nat.reduceMul, Int.reduceToNat, List.reduceReplicate, Nat.reduceLeDiff, Nat.reduceLT, Int.reduceLT, Int.reduceLE, Int.reduceEq]) fun S hS => cwp_sound _ _ _ _ ?_; simp (maxSteps := 900000) (disch := omega) only [s33, go_sem, Nat.reduceEqDiff, ↓reduceIte, reduceCtorEq, Nat.reduceAdd, Nat.reduceMul, Int.reduceToNat, List.reduceReplicate, Nat.reduceLeDiff, Nat.reduceLT, Int.reduceLT, Int.reduceLE, Int.reduceEq])
    repeat' (first | with_reducible refine inw ?_ | simp (maxSteps := 900000) (disch := omega) only [go_sem, Nat.reduceEqDiff, ↓reduceIte, reduceCtorEq, Nat.reduceAdd, Nat.reduceMul, Int.reduceToNat, List.reduceReplicate, Nat.reduceLeDiff, Nat.reduceLT, Int.reduceLT, Int.reduceLE, Int.reduceEq] | (with_reducible apply call (c1)); (focus simp (maxSteps := 900000) (disch := omega) only [go_sem, Nat.reduceEqDiff, ↓reduceIte, reduceCtorEq, Nat.reduceAdd, Nat.reduceMul, Int.reduceToNat, List.reduceReplicate, Nat.reduceLeDiff, Nat.reduceLT, Int.reduceLT, Int.reduceLE, Int.reduceEq] <;> rfl) | with_reducible refine giv_intro fun _h => ?_ | with_reducible refine alt_intro ?_ fun _h => ?_ | with_reducible refine pickD_nil ?_ | (with_reducible refine brc (fun _h => ?_) fun _h => ?_) <;> first | (exfalso; omega) | simp only [decide_eq_false _h] | simp only [(_h : (_ : Bool) = _)] | simp only [decide_eq_true _h] | skip)
    all_goals first | rfl | (exfalso; omega)
/-- ablaut/ablautlaw22.LearnPrunes: 2 parameters, 0 captured -/
def s8 : SC := .seq (.reg [o1 4 (.mv (cB false))])
  (.seq (.seq (.reg [o1 13 (.mv (.t 0)),
     o1 14 (.call (.f 10) [(.t 13)]),
     o1 15 (.mv (.t 14)),
     oF 16 (.mv (.t 1)) 15,
     oF 17 (.call (.f 11) [(.t 16)]) 15,
     o1 18 (.pick (.t 15) (cB true) (.t 17))])
    (.cond (.t 18) (.seq (.reg [o1 19 (.call (.f 12) []),
       o1 4 (.mv (.t 19))])
      (.ret)) (.skip)))
   (.seq (.reg [o1 21 (.mv (.t 0)),
     o1 22 (.mv (.t 1)),
     o1 23 (.call (.f 30) [(.t 21), (.t 22)]),
     o1 20 (.mv (.t 23)),
     o1 24 (.ext (.t 20) 0),
     o1 25 (.ext (.t 20) 1),
     o1 5 (.mv (.t 24)),
     o1 6 (.mv (.t 25))])
    (.seq (.reg [o1 27 (.mv (.t 0)),
      o1 28 (.mv (.t 1)),
      o1 29 (.call (.f 31) [(.t 27), (.t 28)]),
      o1 26 (.mv (.t 29)),
      o1 30 (.ext (.t 26) 0),
      o1 31 (.ext (.t 26) 1),
      o1 7 (.mv (.t 30)),
      o1 8 (.mv (.t 31))])
     (.seq (.reg [o1 33 (.mv (.t 0)),
       o1 34 (.mv (.t 1)),
       o1 35 (.call (.f 32) [(.t 33), (.t 34)]),
       o1 32 (.mv (.t 35)),
       o1 36 (.ext (.t 32) 0),
       o1 37 (.ext (.t 32) 1),
       o1 9 (.mv (.t 36)),
       o1 10 (.mv (.t 37))])
      (.seq (.reg [o1 39 (.mv (.t 0)),
        o1 40 (.mv (.t 1)),
        o1 41 (.call (.f 33) [(.t 39), (.t 40)]),
        o1 38 (.mv (.t 41)),
        o1 42 (.ext (.t 38) 0),
        o1 43 (.ext (.t 38) 1),
        o1 11 (.mv (.t 42)),
        o1 12 (.mv (.t 43))])
       (.seq (.reg [o1 44 (.mv (.t 5)),
         o1 45 (.mv (.t 7)),
         o1 46 (.bin .eql (.t 44) (.t 45)),
         o1 47 (.mv (.t 46)),
         oT 48 (.mv (.t 6)) 47,
         oT 49 (.mv (.t 8)) 47,
         oT 50 (.bin .eql (.t 48) (.t 49)) 47,
         o1 51 (.pick (.t 47) (.t 50) (cB false)),
         o1 52 (.mv (.t 51)),
         oT 53 (.mv (.t 9)) 52,
         oT 54 (.mv (.t 11)) 52,
         oT 55 (.call (.f 26) [(.t 53), (.t 54)]) 52,
         o1 56 (.pick (.t 52) (.t 55) (cB false)),
         o1 57 (.mv (.t 56)),
         oT 58 (.mv (.t 10)) 57,
         oT 59 (.mv (.t 12)) 57,
         oT 60 (.bin .eql (.t 58) (.t 59)) 57,
         o1 61 (.pick (.t 57) (.t 60) (cB false)),
         o1 62 (.mv (.t 61)),
         oT 63 (.call (.f 12) []) 62,
         o1 64 (.pick (.t 62) (.t 63) (cB false)),
         o1 4 (.mv (.t 64))])
        (.ret)))))))
theorem s8_ok : lookF Try.prog 8 = some (s8, 65, [.tmp 4]) := by kernel_rfl
theorem LearnPrunes_ok (l : List Change) (ls : List Lesson) (hl : ∀ c ∈ l, SmC c) (hs : SmLs ls) : Fn P 8 [sl l, sl ls] (boolA true) := by
  have c4 := same_ok (pruneT l ls).1
  (refine fn_look s8_ok (by simp) (by intro k; simp only [go_sem, Nat.reduceEqDiff, ↓reduceIte, reduceCtorEq, Nat.reduceAdd, Nat.reduceMul, Int.reduceToNat, List.reduceReplicate, Nat.reduceLeDiff, Nat.reduceLT, Int.reduceLT, Int.reduceLE, Int.reduceEq]) fun S hS => cwp_sound _ _ _ _ ?_; simp (maxSteps := 900000) (disch := omega) only [s8, go_sem, Nat.reduceEqDiff, ↓reduceIte, reduceCtorEq, Nat.reduceAdd, Nat.reduceMul, Int.reduceToNat, List.reduceReplicate, Nat.reduceLeDiff, Nat.reduceLT, Int.reduceLT, Int.reduceLE, Int.reduceEq])
  repeat' (first | with_reducible refine inw ?_ | simp (maxSteps := 900000) (disch := omega) only [go_sem, Nat.reduceEqDiff, ↓reduceIte, reduceCtorEq, Nat.reduceAdd, Nat.reduceMul, Int.reduceToNat, List.reduceReplicate, Nat.reduceLeDiff, Nat.reduceLT, Int.reduceLT, Int.reduceLE, Int.reduceEq] | (with_reducible apply callR (overC_ok l)); (focus simp (maxSteps := 900000) (disch := omega) only [go_sem, Nat.reduceEqDiff, ↓reduceIte, reduceCtorEq, Nat.reduceAdd, Nat.reduceMul, Int.reduceToNat, List.reduceReplicate, Nat.reduceLeDiff, Nat.reduceLT, Int.reduceLT, Int.reduceLE, Int.reduceEq] <;> rfl); rintro _ ⟨_, rfl⟩ | (with_reducible apply callR (over_ok ls hs)); (focus simp (maxSteps := 900000) (disch := omega) only [go_sem, Nat.reduceEqDiff, ↓reduceIte, reduceCtorEq, Nat.reduceAdd, Nat.reduceMul, Int.reduceToNat, List.reduceReplicate, Nat.reduceLeDiff, Nat.reduceLT, Int.reduceLT, Int.reduceLE, Int.reduceEq] <;> rfl); rintro _ ⟨_, rfl⟩ | (with_reducible apply call (known_ok)); (focus simp (maxSteps := 900000) (disch := omega) only [go_sem, Nat.reduceEqDiff, ↓reduceIte, reduceCtorEq, Nat.reduceAdd, Nat.reduceMul, Int.reduceToNat, List.reduceReplicate, Nat.reduceLeDiff, Nat.reduceLT, Int.reduceLT, Int.reduceLE, Int.reduceEq] <;> rfl) | (with_reducible apply call (Wrong_ok l ls hl hs)); (focus simp (maxSteps := 900000) (disch := omega) only [go_sem, Nat.reduceEqDiff, ↓reduceIte, reduceCtorEq, Nat.reduceAdd, Nat.reduceMul, Int.reduceToNat, List.reduceReplicate, Nat.reduceLeDiff, Nat.reduceLT, Int.reduceLT, Int.reduceLE, Int.reduceEq] <;> rfl) | (with_reducible apply call (rWrong2_ok l ls hl hs)); (focus simp (maxSteps := 900000) (disch := omega) only [go_sem, Nat.reduceEqDiff, ↓reduceIte, reduceCtorEq, Nat.reduceAdd, Nat.reduceMul, Int.reduceToNat, List.reduceReplicate, Nat.reduceLeDiff, Nat.reduceLT, Int.reduceLT, Int.reduceLE, Int.reduceEq] <;> rfl) | (with_reducible apply call (Prune_ok l ls hl hs)); (focus simp (maxSteps := 900000) (disch := omega) only [go_sem, Nat.reduceEqDiff, ↓reduceIte, reduceCtorEq, Nat.reduceAdd, Nat.reduceMul, Int.reduceToNat, List.reduceReplicate, Nat.reduceLeDiff, Nat.reduceLT, Int.reduceLT, Int.reduceLE, Int.reduceEq] <;> rfl) | (with_reducible apply call (rPrune_ok l ls hl hs)); (focus simp (maxSteps := 900000) (disch := omega) only [go_sem, Nat.reduceEqDiff, ↓reduceIte, reduceCtorEq, Nat.reduceAdd, Nat.reduceMul, Int.reduceToNat, List.reduceReplicate, Nat.reduceLeDiff, Nat.reduceLT, Int.reduceLT, Int.reduceLE, Int.reduceEq] <;> rfl) | (with_reducible apply call (c4)); (focus simp (maxSteps := 900000) (disch := omega) only [go_sem, Nat.reduceEqDiff, ↓reduceIte, reduceCtorEq, Nat.reduceAdd, Nat.reduceMul, Int.reduceToNat, List.reduceReplicate, Nat.reduceLeDiff, Nat.reduceLT, Int.reduceLT, Int.reduceLE, Int.reduceEq] <;> rfl) | with_reducible refine giv_intro fun _h => ?_ | with_reducible refine alt_intro ?_ fun _h => ?_ | with_reducible refine pickD_nil ?_ | (with_reducible refine brc (fun _h => ?_) fun _h => ?_) <;> first | (exfalso; omega) | simp only [decide_eq_false _h] | simp only [(_h : (_ : Bool) = _)] | simp only [decide_eq_true _h] | skip)
end Go.Proofs.Ytapgimibdamjoaa.Ev

/- Which changes are needed: both programs. -/
import Derived.Test.YtapgimibdamjoaaZFnNw
set_option linter.unusedVariables false
set_option linter.unusedSimpArgs false
namespace Go.Proofs.Ytapgimibdamjoaa.Ev
open Go Go.Proofs Go.RowKit

/-- The first part of an own row, that is written no more. -/
theorem View.freezeP {α : Type} {k : Nat} [Enc α k] {fr : Fr} {S : St} {L : List (Option Ob)} (i j e tot : Nat) (l : List α) {cs : List AV} (h : fit (fr i) (.ref (S.nm j) tot 0 l.length)) (hr : rowAt L j tot = some (e, k, cs)) (hc : cs.take (l.length * k) = cellsL l) (ht : l.length * k ≤ tot) (hj : j < L.length) :
    View fr (S.stk L) (fr.put (some i) (sl l)) (S.stk (L.set j none)) := by
  have h : fr i = .ref (S.nm j) tot 0 l.length := by
    rcases h with h | ⟨_, h⟩ | h
    · exact h
    · cases h
    · cases h
  rw [← stk_row S] at hr
  obtain ⟨hm, hl⟩ := row?_some hr
  have := View.freeze (i := i) (k := k) h hm hl ht
  rw [stk_killL S hj, hc] at this
  exact this
/-! ### both, Wrong -/
def bothV (l : List Change) (ls : List Lesson) : Int := if valC l ≠ 0 then valC l else valL ls
/-- ablaut/learn.both: 2 parameters, 0 captured -/
def s56 : SC := .seq (.reg [o1 4 (.mv (cI 0))])
  (.seq (.seq (.reg [o1 6 (.mv (.t 0)),
     o1 7 (.call (.f 13) [(.t 6)]),
     o1 5 (.mv (.t 7))])
    (.seq (.reg [o1 8 (.mv (.t 5)),
      o1 9 (.bin .neq (.t 8) (cI 0))])
     (.cond (.t 9) (.seq (.reg [o1 10 (.mv (.t 5)),
        o1 4 (.mv (.t 10))])
       (.ret)) (.skip))))
   (.seq (.reg [o1 11 (.mv (.t 1)),
     o1 12 (.call (.f 15) [(.t 11)]),
     o1 4 (.mv (.t 12))])
    (.ret)))
theorem s56_ok : lookF Try.prog 56 = some (s56, 13, [.tmp 4]) := by kernel_rfl
theorem both_ok (l : List Change) (ls : List Lesson) (hl : ∀ c ∈ l, SmC c) (hs : SmLs ls) : Fn P 56 [sl l, sl ls] (intA (bothV l ls)) := by
  have c1 := validate_ok l hl
  have c2 := validateL_ok ls hs
  by_cases h : valC l = 0
  · rw [h] at c1
    rw [bothV, if_neg (by simpa using h)]
    (refine fn_look s56_ok (by simp) (by intro k; simp only [go_sem, Nat.reduceEqDiff, ↓reduceIte, reduceCtorEq, Nat.reduceAdd, Nat.reduceMul, Int.reduceToNat, List.reduceReplicate, Nat.reduceLeDiff, Nat.reduceLT, Int.reduceLT, Int.reduceLE, Int.reduceEq]) fun S hS => cwp_sound _ _ _ _ ?_; simp (maxSteps := 900000) (disch := omega) only [s56, go_sem, Nat.reduceEqDiff, ↓reduceIte, reduceCtorEq, Nat.reduceAdd, Nat.reduceMul, Int.reduceToNat, List.reduceReplicate, Nat.reduceLeDiff, Nat.reduceLT, Int.reduceLT, Int.reduceLE, Int.reduceEq])
    repeat' (first | with_reducible refine inw ?_ | simp (maxSteps := 900000) (disch := omega) only [go_sem, Nat.reduceEqDiff, ↓reduceIte, reduceCtorEq, Nat.reduceAdd, Nat.reduceMul, Int.reduceToNat, List.reduceReplicate, Nat.reduceLeDiff, Nat.reduceLT, Int.reduceLT, Int.reduceLE, Int.reduceEq] | (with_reducible apply call (c1)); (focus simp (maxSteps := 900000) (disch := omega) only [go_sem, Nat.reduceEqDiff, ↓reduceIte, reduceCtorEq, Nat.reduceAdd, Nat.reduceMul, Int.reduceToNat, List.reduceReplicate, Nat.reduceLeDiff, Nat.reduceLT, Int.reduceLT, Int.reduceLE, Int.reduceEq] <;> rfl) | (with_reducible apply call (c2)); (focus simp (maxSteps := 900000) (disch := omega) only [go_sem, Nat.reduceEqDiff, ↓reduceIte, reduceCtorEq, Nat.reduceAdd, Nat.reduceMul, Int.reduceToNat, List.reduceReplicate, Nat.reduceLeDiff, Nat.reduceLT, Int.reduceLT, Int.reduceLE, Int.reduceEq] <;> rfl) | with_reducible refine giv_intro fun _h => ?_ | with_reducible refine alt_intro ?_ fun _h => ?_ | with_reducible refine pickD_nil ?_ | (with_reducible refine brc (fun _h => ?_) fun _h => ?_) <;> first | (exfalso; omega) | simp only [decide_eq_false _h] | simp only [(_h : (_ : Bool) = _)] | simp only [decide_eq_true _h] | skip)
    all_goals first | rfl | (exfalso; omega)
  · rw [bothV, if_pos h]
    (refine fn_look s56_ok (by simp) (by intro k; simp only [go_sem, Nat.reduceEqDiff, ↓reduceIte, reduceCtorEq, Nat.reduceAdd, Nat.reduceMul, Int.reduceToNat, List.reduceReplicate, Nat.reduceLeDiff, Nat.reduceLT, Int.reduceLT, Int.reduceLE, Int.reduceEq]) fun S hS => cwp_sound _ _ _ _ ?_; simp (maxSteps := 900000) (disch := omega) only [s56, go_sem, Nat.reduceEqDiff, ↓reduceIte, reduceCtorEq, Nat.reduceAdd, Nat.reduceMul, Int.reduceToNat, List.reduceReplicate, Nat.reduceLeDiff, Nat.reduceLT, Int.reduceLT, Int.reduceLE, Int.reduceEq])
    repeat' (first | with_reducible refine inw ?_ | simp (maxSteps := 900000) (disch := omega) only [go_sem, Nat.reduceEqDiff, ↓reduceIte, reduceCtorEq, Nat.reduceAdd, Nat.reduceMul, Int.reduceToNat, List.reduceReplicate, Nat.reduceLeDiff, Nat.reduceLT, Int.reduceLT, Int.reduceLE, Int.reduceEq] | (with_reducible apply call (c1)); (focus simp (maxSteps := 900000) (disch := omega) only [go_sem, Nat.reduceEqDiff, ↓reduceIte, reduceCtorEq, Nat.reduceAdd, Nat.reduceMul, Int.reduceToNat, List.reduceReplicate, Nat.reduceLeDiff, Nat.reduceLT, Int.reduceLT, Int.reduceLE, Int.reduceEq] <;> rfl) | (with_reducible apply call (c2)); (focus simp (maxSteps := 900000) (disch := omega) only [go_sem, Nat.reduceEqDiff, ↓reduceIte, reduceCtorEq, Nat.reduceAdd, Nat.reduceMul, Int.reduceToNat, List.reduceReplicate, Nat.reduceLeDiff, Nat.reduceLT, Int.reduceLT, Int.reduceLE, Int.reduceEq] <;> rfl) | with_reducible refine giv_intro fun _h => ?_ | with_reducible refine alt_intro ?_ fun _h => ?_ | with_reducible refine pickD_nil ?_ | (with_reducible refine brc (fun _h => ?_) fun _h => ?_) <;> first | (exfalso; omega) | simp only [decide_eq_false _h] | simp only [(_h : (_ : Bool) = _)] | simp only [decide_eq_true _h] | skip)
    all_goals first | rfl | (exfalso; omega)
theorem both_0 {l : List Change} {ls : List Lesson} (h : bothV l ls = 0) : valC l = 0 ∧ valL ls = 0 := by
  rw [bothV] at h
  split at h
  · exact absurd h (by assumption)
  · exact ⟨by simpa using ‹¬valC l ≠ 0›, h⟩
def wrongT (l : List Change) (ls : List Lesson) : Int × Int := if bothV l ls ≠ 0 then (0, bothV l ls) else (wrongL l ls, 0)
/-- ablaut/learn.Wrong: 2 parameters, 0 captured -/
def s30 : SC := .seq (.reg [o1 4 (.mv (cI 0)),
   o1 5 (.mv (cI 0))])
  (.seq (.seq (.reg [o1 7 (.mv (.t 0)),
     o1 8 (.mv (.t 1)),
     o1 9 (.call (.f 56) [(.t 7), (.t 8)]),
     o1 6 (.mv (.t 9))])
    (.seq (.reg [o1 10 (.mv (.t 6)),
      o1 11 (.bin .neq (.t 10) (cI 0))])
     (.cond (.t 11) (.seq (.reg [o1 12 (.mv (.t 6)),
        o1 4 (.mv (cI 0)),
        o1 5 (.mv (.t 12))])
       (.ret)) (.skip))))
   (.seq (.reg [o1 13 (.mv (.t 0)),
     o1 14 (.mv (.t 1)),
     o1 15 (.call (.f 57) [(.t 13), (.t 14)]),
     o1 4 (.mv (.t 15)),
     o1 5 (.mv (cI 0))])
    (.ret)))
theorem s30_ok : lookF Try.prog 30 = some (s30, 16, [.tmp 4, .tmp 5]) := by kernel_rfl
theorem Wrong_ok (l : List Change) (ls : List Lesson) (hl : ∀ c ∈ l, SmC c) (hs : SmLs ls) : Fn P 30 [sl l, sl ls] (inI (wrongT l ls)) := by
  have c1 := both_ok l ls hl hs
  by_cases h : bothV l ls = 0
  · obtain ⟨h1, h2⟩ := both_0 h
    have c2 := wrong_ok l ls (kd_all h1) (okLs h2)
    rw [wrongT, if_neg (by simpa using h)]
    rw [h] at c1
    (refine fn_look s30_ok (by simp) (by intro k; simp only [go_sem, Nat.reduceEqDiff, ↓reduceIte, reduceCtorEq, Nat.reduceAdd, Nat.reduceMul, Int.reduceToNat, List.reduceReplicate, Nat.reduceLeDiff, Nat.reduceLT, Int.reduceLT, Int.reduceLE, Int.reduceEq]) fun S hS => cwp_sound _ _ _ _ ?_; simp (maxSteps := 900000) (disch := omega) only [s30, go_sem, Nat.reduceEqDiff, ↓reduceIte, reduceCtorEq, Nat.reduceAdd, Nat.reduceMul, Int.reduceToNat, List.reduceReplicate, Nat.reduceLeDiff, Nat.reduceLT, Int.reduceLT, Int.reduceLE, Int.reduceEq])
    repeat' (first | with_reducible refine inw ?_ | simp (maxSteps := 900000) (disch := omega) only [go_sem, Nat.reduceEqDiff, ↓reduceIte, reduceCtorEq, Nat.reduceAdd, Nat.reduceMul, Int.reduceToNat, List.reduceReplicate, Nat.reduceLeDiff, Nat.reduceLT, Int.reduceLT, Int.reduceLE, Int.reduceEq] | (with_reducible apply call (c1)); (focus simp (maxSteps := 900000) (disch := omega) only [go_sem, Nat.reduceEqDiff, ↓reduceIte, reduceCtorEq, Nat.reduceAdd, Nat.reduceMul, Int.reduceToNat, List.reduceReplicate, Nat.reduceLeDiff, Nat.reduceLT, Int.reduceLT, Int.reduceLE, Int.reduceEq] <;> rfl) | (with_reducible apply call (c2)); (focus simp (maxSteps := 900000) (disch := omega) only [go_sem, Nat.reduceEqDiff, ↓reduceIte, reduceCtorEq, Nat.reduceAdd, Nat.reduceMul, Int.reduceToNat, List.reduceReplicate, Nat.reduceLeDiff, Nat.reduceLT, Int.reduceLT, Int.reduceLE, Int.reduceEq] <;> rfl) | with_reducible refine giv_intro fun _h => ?_ | with_reducible refine alt_intro ?_ fun _h => ?_ | with_reducible refine pickD_nil ?_ | (with_reducible refine brc (fun _h => ?_) fun _h => ?_) <;> first | (exfalso; omega) | simp only [decide_eq_false _h] | simp only [(_h : (_ : Bool) = _)] | simp only [decide_eq_true _h] | skip)
    all_goals first | rfl | (exfalso; omega)
  · rw [wrongT, if_pos h]
    (refine fn_look s30_ok (by simp) (by intro k; simp only [go_sem, Nat.reduceEqDiff, ↓reduceIte, reduceCtorEq, Nat.reduceAdd, Nat.reduceMul, Int.reduceToNat, List.reduceReplicate, Nat.reduceLeDiff, Nat.reduceLT, Int.reduceLT, Int.reduceLE, Int.reduceEq]) fun S hS => cwp_sound _ _ _ _ ?_; simp (maxSteps := 900000) (disch := omega) only [s30, go_sem, Nat.reduceEqDiff, ↓reduceIte, reduceCtorEq, Nat.reduceAdd, Nat.reduceMul, Int.reduceToNat, List.reduceReplicate, Nat.reduceLeDiff, Nat.reduceLT, Int.reduceLT, Int.reduceLE, Int.reduceEq])
    repeat' (first | with_reducible refine inw ?_ | simp (maxSteps := 900000) (disch := omega) only [go_sem, Nat.reduceEqDiff, ↓reduceIte, reduceCtorEq, Nat.reduceAdd, Nat.reduceMul, Int.reduceToNat, List.reduceReplicate, Nat.reduceLeDiff, Nat.reduceLT, Int.reduceLT, Int.reduceLE, Int.reduceEq] | (with_reducible apply call (c1)); (focus simp (maxSteps := 900000) (disch := omega) only [go_sem, Nat.reduceEqDiff, ↓reduceIte, reduceCtorEq, Nat.reduceAdd, Nat.reduceMul, Int.reduceToNat, List.reduceReplicate, Nat.reduceLeDiff, Nat.reduceLT, Int.reduceLT, Int.reduceLE, Int.reduceEq] <;> rfl) | with_reducible refine giv_intro fun _h => ?_ | with_reducible refine alt_intro ?_ fun _h => ?_ | with_reducible refine pickD_nil ?_ | (with_reducible refine brc (fun _h => ?_) fun _h => ?_) <;> first | (exfalso; omega) | simp only [decide_eq_false _h] | simp only [(_h : (_ : Bool) = _)] | simp only [decide_eq_true _h] | skip)
    all_goals first | rfl | (exfalso; omega)
/-! ### Prune -/
def delAt (l : List Change) (i : Nat) : List Change := l.take i ++ l.drop (i + 1)
theorem delAt_len {l : List Change} {i : Nat} (h : i < l.length) : (delAt l i).length = l.length - 1 := by
  rw [delAt, List.length_append, List.length_take, List.length_drop]; omega
theorem delAt_mem {l : List Change} {i : Nat} {c : Change} (h : c ∈ delAt l i) : c ∈ l := by
  rcases List.mem_append.1 h with h | h
  · exact List.mem_of_mem_take h
  · exact List.mem_of_mem_drop h
def pruneF (ls : List Lesson) (all : Nat) : Nat → List Change → List Change
  | 0, out => out
  | i + 1, out => pruneF ls all i (if wrongL (delAt out i) ls ≤ all then delAt out i else out)
def pruneT (l : List Change) (ls : List Lesson) : List Change × Int := if bothV l ls ≠ 0 then ([], bothV l ls) else (pruneF ls (wrongL l ls) l.length l, 0)
/-- slices.Clone[[]ablaut/api.Change,ablaut/api.Change]: 1 parameters, 0 captured -/
def s59 : SC := .seq (.reg [o1 2 (.mv (.c (.slice none 0 0)))])
  (.seq (.seq (.reg [o1 3 (.mv (.t 0)),
     o1 4 (.eq false .slice (.t 3) (.c (.slice none 0 0)))])
    (.cond (.t 4) (.seq (.reg [o1 2 (.mv (.c (.slice none 0 0)))])
      (.ret)) (.skip)))
   (.seq (.reg [o1 5 (.buildSl 32 4 0 [(.string ⟨#[]⟩), (.string ⟨#[]⟩), (.int .i64 0), (.string ⟨#[]⟩)] []),
     o1 6 (.mv (.t 0)),
     o1 7 (.app 32 4 56 (.t 5) (.t 6)),
     o1 2 (.mv (.t 7))])
    (.ret)))
theorem s59_ok : lookF Try.prog 59 = some (s59, 8, [.tmp 2]) := by kernel_rfl
theorem cloneC_own (l : List Change) (h0 : 0 < l.length) (hl : l.length ≤ 200) : FnS P 59 [sl l] (fun S L r => L = [rowO 32 l] ∧ r = own S 0 l) := by
  (refine fnS_look s59_ok (by simp) fun S hS => cwp_sound _ _ _ _ ?_; simp (maxSteps := 900000) (disch := omega) only [s59, go_sem, Nat.reduceEqDiff, ↓reduceIte, reduceCtorEq, Nat.reduceAdd, Nat.reduceMul, Int.reduceToNat, List.reduceReplicate, Nat.reduceLeDiff, Nat.reduceLT, Int.reduceLT, Int.reduceLE, Int.reduceEq])
  repeat' (first | with_reducible refine inw ?_ | simp (maxSteps := 900000) (disch := omega) only [go_sem, Nat.reduceEqDiff, ↓reduceIte, reduceCtorEq, Nat.reduceAdd, Nat.reduceMul, Int.reduceToNat, List.reduceReplicate, Nat.reduceLeDiff, Nat.reduceLT, Int.reduceLT, Int.reduceLE, Int.reduceEq, zc_zero] | with_reducible refine giv_intro fun _h => ?_ | with_reducible refine alt_intro ?_ fun _h => ?_ | with_reducible refine pickD_nil ?_ | (with_reducible refine brc (fun _h => ?_) fun _h => ?_) <;> first | (exfalso; omega) | simp only [decide_eq_false _h] | simp only [(_h : (_ : Bool) = _)] | simp only [decide_eq_true _h] | skip)
  all_goals first | (exfalso; omega) | (simp [own]; done)
theorem cloneC_ok (l : List Change) (hl : l.length ≤ 200) : Fn P 59 [sl l] (sl l) := by
  (refine fn_look s59_ok (by simp) (by intro k; simp only [go_sem, Nat.reduceEqDiff, ↓reduceIte, reduceCtorEq, Nat.reduceAdd, Nat.reduceMul, Int.reduceToNat, List.reduceReplicate, Nat.reduceLeDiff, Nat.reduceLT, Int.reduceLT, Int.reduceLE, Int.reduceEq]) fun S hS => cwp_sound _ _ _ _ ?_; simp (maxSteps := 900000) (disch := omega) only [s59, go_sem, Nat.reduceEqDiff, ↓reduceIte, reduceCtorEq, Nat.reduceAdd, Nat.reduceMul, Int.reduceToNat, List.reduceReplicate, Nat.reduceLeDiff, Nat.reduceLT, Int.reduceLT, Int.reduceLE, Int.reduceEq])
  repeat' (first | with_reducible refine inw ?_ | simp (maxSteps := 900000) (disch := omega) only [go_sem, Nat.reduceEqDiff, ↓reduceIte, reduceCtorEq, Nat.reduceAdd, Nat.reduceMul, Int.reduceToNat, List.reduceReplicate, Nat.reduceLeDiff, Nat.reduceLT, Int.reduceLT, Int.reduceLE, Int.reduceEq, zc_zero] | with_reducible refine giv_intro fun _h => ?_ | with_reducible refine alt_intro ?_ fun _h => ?_ | with_reducible refine pickD_nil ?_ | (with_reducible refine brc (fun _h => ?_) fun _h => ?_) <;> first | (exfalso; omega) | simp only [decide_eq_false _h] | simp only [(_h : (_ : Bool) = _)] | simp only [decide_eq_true _h] | skip)
  rw [List.eq_nil_of_length_eq_zero (by omega : l.length = 0)]; rfl
theorem seenRow_p {α : Type} {k : Nat} [Enc α k] {e n tot : Nat} {l r : List α} {D : Nat → Bool} {S : St} {d : Nat} (h : n = l.length ∧ n * k ≤ tot) : seenRow (some (e, k, cellsL (l ++ r))) 0 n tot (seen D S d) = sl l := by
  obtain ⟨rfl, h⟩ := h
  simp only [seenRow, Nat.zero_add, h, if_true, List.drop_zero]
  rw [cellsL_take, List.take_left, seen_cellsL]
/-- slices.Delete[[]ablaut/api.Change,ablaut/api.Change]: 3 parameters, 0 captured -/
def s60 : SC := .seq (.reg [o1 6 (.mv (.c (.slice none 0 0)))])
  (.seq (.reg [o1 8 (.mv (.t 0)),
    o1 9 (.mv (.t 1)),
    o1 10 (.mv (.t 2)),
    o1 11 (.mv (.t 0)),
    o1 12 (.lenL (.t 11)),
    o1 13 (.sl3 4 (.t 8) (.t 9) (.t 10) (.t 12))])
   (.seq (.seq (.reg [o1 14 (.mv (.t 1)),
      o1 15 (.mv (.t 2)),
      o1 16 (.bin .eql (.t 14) (.t 15))])
     (.cond (.t 16) (.seq (.reg [o1 17 (.mv (.t 0)),
        o1 6 (.mv (.t 17))])
       (.ret)) (.skip)))
    (.seq (.reg [o1 18 (.mv (.t 0)),
      o1 19 (.lenL (.t 18)),
      o1 7 (.mv (.t 19))])
     (.seq (.regE [o1 20 (.mv (.t 0)),
       o1 21 (.mv (.t 1)),
       o1 22 (.sl 4 (.t 20) none (some (.t 21))),
       o1 23 (.mv (.t 0)),
       o1 24 (.mv (.t 2)),
       o1 25 (.sl 4 (.t 23) (some (.t 24)) none),
       o1 26 (.app 32 4 56 (.t 22) (.t 25)),
       o1 0 (.mv (.t 26))])
      (.seq (.reg [o1 27 (.mv (.t 0)),
        o1 28 (.mv (.t 0)),
        o1 29 (.lenL (.t 28)),
        o1 30 (.mv (.t 7)),
        o1 31 (.sl 4 (.t 27) (some (.t 29)) (some (.t 30))),
        o0 (.clr 4 [(.string ⟨#[]⟩), (.string ⟨#[]⟩), (.int .i64 0), (.string ⟨#[]⟩)] (.t 31))])
       (.seq (.reg [o1 32 (.mv (.t 0)),
         o1 6 (.mv (.t 32))])
        (.ret)))))))
theorem s60_ok : lookF Try.prog 60 = some (s60, 33, [.tmp 6]) := by kernel_rfl
/-- ablaut/learn.Prune: 2 parameters, 0 captured -/
def s32 : SC := .seq (.reg [o1 4 (.mv (.c (.slice none 0 0))),
   o1 5 (.mv (cI 0))])
  (.seq (.seq (.reg [o1 11 (.mv (.t 0)),
     o1 12 (.mv (.t 1)),
     o1 13 (.call (.f 56) [(.t 11), (.t 12)]),
     o1 6 (.mv (.t 13))])
    (.seq (.reg [o1 14 (.mv (.t 6)),
      o1 15 (.bin .neq (.t 14) (cI 0))])
     (.cond (.t 15) (.seq (.reg [o1 16 (.mv (.t 6)),
        o1 4 (.mv (.c (.slice none 0 0))),
        o1 5 (.mv (.t 16))])
       (.ret)) (.skip))))
   (.seq (.reg [o1 17 (.mv (.t 0)),
     o1 18 (.call (.f 59) [(.t 17)]),
     o1 7 (.mv (.t 18))])
    (.seq (.reg [o1 19 (.mv (.t 0)),
      o1 20 (.mv (.t 1)),
      o1 21 (.call (.f 57) [(.t 19), (.t 20)]),
      o1 8 (.mv (.t 21))])
     (.seq (.seq (.reg [o1 22 (.mv (.t 7)),
        o1 23 (.lenL (.t 22)),
        o1 24 (.bin .sub (.t 23) (cI 1)),
        o1 9 (.mv (.t 24))])
       (.block 0 (.loop (.seq (.seq (.reg [o1 25 (.mv (.t 9)),
            o1 26 (.bin .geq (.t 25) (cI 0))])
           (.cond (.t 26) (.skip) (.exit 0)))
          (.seq (.block 1 (.seq (.reg [o1 29 (.mv (.t 7)),
              o1 30 (.call (.f 59) [(.t 29)]),
              o1 31 (.mv (.t 9)),
              o1 32 (.mv (.t 9)),
              o1 33 (.bin .add (.t 32) (cI 1)),
              o1 34 (.call (.f 60) [(.t 30), (.t 31), (.t 33)]),
              o1 10 (.mv (.t 34))])
             (.seq (.reg [o1 35 (.mv (.t 10)),
               o1 36 (.mv (.t 1)),
               o1 37 (.call (.f 57) [(.t 35), (.t 36)]),
               o1 38 (.mv (.t 8)),
               o1 39 (.bin .leq (.t 37) (.t 38))])
              (.cond (.t 39) (.reg [o1 40 (.mv (.t 10)),
                o1 7 (.mv (.t 40))]) (.skip)))))
           (.reg [o1 27 (.mv (.t 9)),
            o1 28 (.bin .sub (.t 27) (cI 1)),
            o1 9 (.mv (.t 28))]))))))
      (.seq (.reg [o1 41 (.mv (.t 7)),
        o1 4 (.mv (.t 41)),
        o1 5 (.mv (cI 0))])
       (.ret))))))
theorem s32_ok : lookF Try.prog 32 = some (s32, 42, [.tmp 4, .tmp 5]) := by kernel_rfl
set_option maxHeartbeats 2000000 in
theorem Prune_ok (l : List Change) (ls : List Lesson) (hl : ∀ c ∈ l, SmC c) (hs : SmLs ls) : Fn P 32 [sl l, sl ls] (clI (pruneT l ls)) := by
  have c1 := both_ok l ls hl hs
  by_cases h : bothV l ls = 0
  · obtain ⟨h1, h2⟩ := both_0 h
    have hln := (valC_ok h1).1
    have c2 := wrong_ok l ls (kd_all h1) (okLs h2)
    have c3 := cloneC_ok l (by omega)
    rw [pruneT, if_neg (by simpa using h)]
    rw [h] at c1
    (refine fn_look s32_ok (by simp) (by intro k; simp only [go_sem, Nat.reduceEqDiff, ↓reduceIte, reduceCtorEq, Nat.reduceAdd, Nat.reduceMul, Int.reduceToNat, List.reduceReplicate, Nat.reduceLeDiff, Nat.reduceLT, Int.reduceLT, Int.reduceLE, Int.reduceEq]) fun S hS => cwp_sound _ _ _ _ ?_; simp (maxSteps := 900000) (disch := omega) only [s32, go_sem, Nat.reduceEqDiff, ↓reduceIte, reduceCtorEq, Nat.reduceAdd, Nat.reduceMul, Int.reduceToNat, List.reduceReplicate, Nat.reduceLeDiff, Nat.reduceLT, Int.reduceLT, Int.reduceLE, Int.reduceEq])
    repeat' (first | with_reducible refine inw ?_ | simp (maxSteps := 900000) (disch := omega) only [go_sem, Nat.reduceEqDiff, ↓reduceIte, reduceCtorEq, Nat.reduceAdd, Nat.reduceMul, Int.reduceToNat, List.reduceReplicate, Nat.reduceLeDiff, Nat.reduceLT, Int.reduceLT, Int.reduceLE, Int.reduceEq] | (with_reducible apply call (c1)); (focus simp (maxSteps := 900000) (disch := omega) only [go_sem, Nat.reduceEqDiff, ↓reduceIte, reduceCtorEq, Nat.reduceAdd, Nat.reduceMul, Int.reduceToNat, List.reduceReplicate, Nat.reduceLeDiff, Nat.reduceLT, Int.reduceLT, Int.reduceLE, Int.reduceEq] <;> rfl) | (with_reducible apply call (c3)); (focus simp (maxSteps := 900000) (disch := omega) only [go_sem, Nat.reduceEqDiff, ↓reduceIte, reduceCtorEq, Nat.reduceAdd, Nat.reduceMul, Int.reduceToNat, List.reduceReplicate, Nat.reduceLeDiff, Nat.reduceLT, Int.reduceLT, Int.reduceLE, Int.reduceEq] <;> rfl) | (with_reducible apply call (c2)); (focus simp (maxSteps := 900000) (disch := omega) only [go_sem, Nat.reduceEqDiff, ↓reduceIte, reduceCtorEq, Nat.reduceAdd, Nat.reduceMul, Int.reduceToNat, List.reduceReplicate, Nat.reduceLeDiff, Nat.reduceLT, Int.reduceLT, Int.reduceLE, Int.reduceEq] <;> rfl) | with_reducible refine giv_intro fun _h => ?_ | with_reducible refine alt_intro ?_ fun _h => ?_ | with_reducible refine pickD_nil ?_ | (with_reducible refine brc (fun _h => ?_) fun _h => ?_) <;> first | (exfalso; omega) | simp only [decide_eq_false _h] | simp only [(_h : (_ : Bool) = _)] | simp only [decide_eq_true _h] | skip)
    (refine loopV hS [1, 8] (by simp only [go_sem, Nat.reduceEqDiff, ↓reduceIte, reduceCtorEq, Nat.reduceAdd, Nat.reduceMul, Int.reduceToNat, List.reduceReplicate, Nat.reduceLeDiff, Nat.reduceLT, Int.reduceLT, Int.reduceLE, Int.reduceEq]; try rfl) (fun (⟨out, i⟩ : List Change × Nat) => [(7, sl out), (9, intA ((i : Int) - 1))]) (fun (⟨out, i⟩ : List Change × Nat) => []) (fun (⟨out, i⟩ : List Change × Nat) => i ≤ out.length ∧ out.length ≤ l.length ∧ (∀ c ∈ out, c ∈ l) ∧ pruneF ls (wrongL l ls) l.length l = pruneF ls (wrongL l ls) i out) (fun (⟨out, i⟩ : List Change × Nat) => i) ((l, l.length)) ?h01 ?hn1 ?rd1; case hn1 => (intro s; first | rfl | (rcases s with ⟨_, _⟩; rfl) | (rcases s with ⟨_, _, _⟩; rfl) | (rcases s with ⟨_, _, _, _⟩; rfl) | (rcases s with ⟨_, _, _, _, _⟩; rfl)))
    · simp (maxSteps := 900000) (disch := omega) only [go_sem, Nat.reduceEqDiff, ↓reduceIte, reduceCtorEq, Nat.reduceAdd, Nat.reduceMul, Int.reduceToNat, List.reduceReplicate, Nat.reduceLeDiff, Nat.reduceLT, Int.reduceLT, Int.reduceLE, Int.reduceEq]
      exact fun c hc => hc
    rintro ⟨out, i⟩ ⟨hi, ho, hm, he⟩
    by_cases hi0 : i = 0
    · subst hi0
      repeat' (first | with_reducible refine inw ?_ | simp (maxSteps := 900000) (disch := omega) only [go_sem, Nat.reduceEqDiff, ↓reduceIte, reduceCtorEq, Nat.reduceAdd, Nat.reduceMul, Int.reduceToNat, List.reduceReplicate, Nat.reduceLeDiff, Nat.reduceLT, Int.reduceLT, Int.reduceLE, Int.reduceEq] | with_reducible refine giv_intro fun _h => ?_ | with_reducible refine alt_intro ?_ fun _h => ?_ | with_reducible refine pickD_nil ?_ | (with_reducible refine brc (fun _h => ?_) fun _h => ?_) <;> first | (exfalso; omega) | simp only [decide_eq_false _h] | simp only [(_h : (_ : Bool) = _)] | simp only [decide_eq_true _h] | skip)
      rw [he]; rfl
    · obtain ⟨i, rfl⟩ : ∃ i', i = i' + 1 := ⟨i - 1, by omega⟩
      have hkd : ∀ c ∈ delAt out i, KdC c := fun c hc => kd_all h1 c (hm c (delAt_mem hc))
      have c4 := wrong_ok (delAt out i) ls hkd (okLs h2)
      have ei : (((i + 1 : Nat) : Int) - 1) = (i : Int) := by omega
      replace hi : i + 1 ≤ out.length := hi
      replace ho : out.length ≤ l.length := ho
      repeat' (first | with_reducible refine inw ?_ | simp (maxSteps := 900000) (disch := omega) only [go_sem, Nat.reduceEqDiff, ↓reduceIte, reduceCtorEq, Nat.reduceAdd, Nat.reduceMul, Int.reduceToNat, List.reduceReplicate, Nat.reduceLeDiff, Nat.reduceLT, Int.reduceLT, Int.reduceLE, Int.reduceEq, ei] | with_reducible refine giv_intro fun _h => ?_ | with_reducible refine alt_intro ?_ fun _h => ?_ | with_reducible refine pickD_nil ?_ | (with_reducible refine brc (fun _h => ?_) fun _h => ?_) <;> first | (exfalso; omega) | simp only [decide_eq_false _h] | simp only [(_h : (_ : Bool) = _)] | simp only [decide_eq_true _h] | skip)
      refine callN (cloneC_own out (by omega) (by omega)) rfl ?_
      rintro L' r ⟨rfl, rfl⟩
      simp only [own, nm_stk, List.nil_append, List.length_nil, Nat.zero_add]
      have et : ((i : Int) + 1).toNat = i + 1 := by omega
      obtain ⟨m, hm2⟩ : ∃ m, out.length = i + 1 + m := ⟨out.length - (i + 1), by omega⟩
      have em : out.length - (i + 1) = m := by omega
      have hif : ((i + 1) * 4 + m * 4 ≤ out.length * 4) = True := eq_true (by omega)
      have eL : (out.drop (i + 1)).length = m := by rw [List.length_drop]; omega
      have eS : ((cellsL out).drop ((i + 1) * 4)).take (m * 4) = cellsL (out.drop (i + 1)) := by
        rw [cellsL_drop, List.take_of_length_le (by rw [cellsL_len, eL]; exact Nat.le_refl _)]
      have eD : (delAt out i).length = i + m := by rw [delAt_len (by omega)]; omega
      have eX : (out.drop (i + m)).length = 1 := by rw [List.length_drop]; omega
      have eA : (cellsL out).take (i * 4) ++ cellsL (out.drop (i + 1)) ++ (cellsL out).drop ((i + m) * 4) = cellsL (delAt out i ++ out.drop (i + m)) := by
        rw [cellsL_take, cellsL_drop, cellsL_app, cellsL_app]; rfl
      have eW : (delAt out i ++ out.drop (i + m)).length = out.length := by rw [List.length_append, eD, eX]; omega
      have eB : (cellsL (delAt out i ++ out.drop (i + m))).take ((i + m) * 4) ++ [strA ⟨#[]⟩, strA ⟨#[]⟩, intA 0, strA ⟨#[]⟩] ++ (cellsL (delAt out i ++ out.drop (i + m))).drop ((i + m) * 4 + 4) = cellsL (delAt out i ++ [dfC]) := by
        have e4 : (i + m) * 4 + 4 = (i + m + 1) * 4 := by omega
        rw [e4, cellsL_take, cellsL_drop, List.take_left' eD, List.drop_eq_nil_of_le (by rw [eW]; omega), ← cellsL_app]
        show _ ++ [] = _
        rw [List.append_nil]; rfl
      have e1 : out.length - (i + m) = 1 := by omega
      have eV : (delAt out i ++ [dfC]).length = out.length := by rw [List.length_append, eD, List.length_singleton]; omega
      have eQ : ∀ (e : Nat) (D : Nat → Bool) (S : St) (d : Nat), seenRow (some (e, 4, cellsL (delAt out i ++ [dfC]))) 0 (i + m) (out.length * 4) (seen D S d) = sl (delAt out i) := fun e D S d => seenRow_p ⟨eD.symm, by omega⟩
      repeat' (first | with_reducible refine inw ?_ | simp (maxSteps := 900000) (disch := omega) only [go_sem, Nat.reduceEqDiff, ↓reduceIte, reduceCtorEq, Nat.reduceAdd, Nat.reduceMul, Int.reduceToNat, List.reduceReplicate, Nat.reduceLeDiff, Nat.reduceLT, Int.reduceLT, Int.reduceLE, Int.reduceEq, ei, et, em, e1, eS, eL, eA, eB, eQ, eV, eW, hif, if_true, true_or, or_true, Nat.zero_add, Nat.sub_zero, Nat.one_mul, ax_room] | (with_reducible refine callI s60_ok (by simp) hS (cwp_sound _ _ _ _ ?_)); simp (maxSteps := 900000) (disch := omega) only [s60, go_sem, Nat.reduceEqDiff, ↓reduceIte, reduceCtorEq, Nat.reduceAdd, Nat.reduceMul, Int.reduceToNat, List.reduceReplicate, Nat.reduceLeDiff, Nat.reduceLT, Int.reduceLT, Int.reduceLE, Int.reduceEq, ei, et, em, e1, eS, eL, eA, eB, eQ, eV, eW, hif, if_true, true_or, or_true, Nat.zero_add, Nat.sub_zero, Nat.one_mul, ax_room] | (with_reducible apply call_lend (c4)); (focus simp (maxSteps := 900000) (disch := omega) only [go_sem, Nat.reduceEqDiff, ↓reduceIte, reduceCtorEq, Nat.reduceAdd, Nat.reduceMul, Int.reduceToNat, List.reduceReplicate, Nat.reduceLeDiff, Nat.reduceLT, Int.reduceLT, Int.reduceLE, Int.reduceEq, ei, et, em, e1, eS, eL, eA, eB, eQ, eV, eW, hif, if_true, true_or, or_true, Nat.zero_add, Nat.sub_zero, Nat.one_mul, ax_room] <;> rfl); (focus rfl) | with_reducible refine giv_intro fun _h => ?_ | with_reducible refine alt_intro ?_ fun _h => ?_ | with_reducible refine pickD_nil ?_ | (with_reducible refine brc (fun _h => ?_) fun _h => ?_) <;> first | (exfalso; omega) | simp only [decide_eq_false _h] | simp only [(_h : (_ : Bool) = _)] | simp only [decide_eq_true _h] | skip)
      · have hw : wrongL (delAt out i) ls ≤ wrongL l ls := by omega
        refine viewed_of (View.freezeP 7 0 32 (out.length * 4) (delAt out i) (by rw [eD]; exact .inl rfl) (by rw [rowAt_zero, if_pos (by rw [cellsL_len, eV])]) (by rw [cellsL_take, List.take_left]) (by rw [eD]; omega) (by simp)) (viewed_done ?_)
        simp (maxSteps := 900000) (disch := omega) only [go_sem, Nat.reduceEqDiff, ↓reduceIte, reduceCtorEq, Nat.reduceAdd, Nat.reduceMul, Int.reduceToNat, List.reduceReplicate, Nat.reduceLeDiff, Nat.reduceLT, Int.reduceLT, Int.reduceLE, Int.reduceEq]
        refine ⟨(delAt out i, i), ⟨by omega, by show i ≤ (delAt out i).length; omega, by show (delAt out i).length ≤ _; omega, fun c hc => hm c (delAt_mem hc), ?_⟩, ?_⟩
        · rw [he]
          show pruneF ls (wrongL l ls) i (if _ then _ else _) = _
          rw [if_pos hw]
        · exact ⟨⟨rfl, rfl⟩, rfl⟩
      · have hw : ¬wrongL (delAt out i) ls ≤ wrongL l ls := by omega
        refine viewed_done ?_
        simp (maxSteps := 900000) (disch := omega) only [go_sem, Nat.reduceEqDiff, ↓reduceIte, reduceCtorEq, Nat.reduceAdd, Nat.reduceMul, Int.reduceToNat, List.reduceReplicate, Nat.reduceLeDiff, Nat.reduceLT, Int.reduceLT, Int.reduceLE, Int.reduceEq]
        refine ⟨(out, i), ⟨by omega, by show i ≤ out.length; omega, ho, hm, ?_⟩, ?_⟩
        · rw [he]
          show pruneF ls (wrongL l ls) i (if _ then _ else _) = _
          rw [if_neg hw]
        · exact ⟨⟨rfl, rfl⟩, rfl⟩
  · rw [pruneT, if_pos h]
    (refine fn_look s32_ok (by simp) (by intro k; simp only [go_sem, Nat.reduceEqDiff, ↓reduceIte, reduceCtorEq, Nat.reduceAdd, Nat.reduceMul, Int.reduceToNat, List.reduceReplicate, Nat.reduceLeDiff, Nat.reduceLT, Int.reduceLT, Int.reduceLE, Int.reduceEq]) fun S hS => cwp_sound _ _ _ _ ?_; simp (maxSteps := 900000) (disch := omega) only [s32, go_sem, Nat.reduceEqDiff, ↓reduceIte, reduceCtorEq, Nat.reduceAdd, Nat.reduceMul, Int.reduceToNat, List.reduceReplicate, Nat.reduceLeDiff, Nat.reduceLT, Int.reduceLT, Int.reduceLE, Int.reduceEq])
    repeat' (first | with_reducible refine inw ?_ | simp (maxSteps := 900000) (disch := omega) only [go_sem, Nat.reduceEqDiff, ↓reduceIte, reduceCtorEq, Nat.reduceAdd, Nat.reduceMul, Int.reduceToNat, List.reduceReplicate, Nat.reduceLeDiff, Nat.reduceLT, Int.reduceLT, Int.reduceLE, Int.reduceEq] | (with_reducible apply call (c1)); (focus simp (maxSteps := 900000) (disch := omega) only [go_sem, Nat.reduceEqDiff, ↓reduceIte, reduceCtorEq, Nat.reduceAdd, Nat.reduceMul, Int.reduceToNat, List.reduceReplicate, Nat.reduceLeDiff, Nat.reduceLT, Int.reduceLT, Int.reduceLE, Int.reduceEq] <;> rfl) | with_reducible refine giv_intro fun _h => ?_ | with_reducible refine alt_intro ?_ fun _h => ?_ | with_reducible refine pickD_nil ?_ | (with_reducible refine brc (fun _h => ?_) fun _h => ?_) <;> first | (exfalso; omega) | simp only [decide_eq_false _h] | simp only [(_h : (_ : Bool) = _)] | simp only [decide_eq_true _h] | skip)
    all_goals first | rfl | (exfalso; omega)
end Go.Proofs.Ytapgimibdamjoaa.Ev

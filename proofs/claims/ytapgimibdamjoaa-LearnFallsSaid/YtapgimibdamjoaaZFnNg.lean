/- A change done at all places: both programs. -/
import Derived.Test.YtapgimibdamjoaaZFnNf
set_option linter.unusedVariables false
set_option linter.unusedSimpArgs false
namespace Go.Proofs.Ytapgimibdamjoaa.Ev
open Go Go.Proofs

abbrev KdC (c : Change) : Prop := (0 ≤ c.2.2.1 ∧ c.2.2.1 ≤ 9) ∧ (c.2.2.1 = 9 → c.2.2.2 = ⟨#[]⟩) ∧ (c.2.2.1 ≠ 9 → c.2.2.2 ≠ ⟨#[]⟩)
theorem app_args {c : Change} (h : KdC c) (w t : List Str) (i : Nat) : appB c w t i = (decide (nth t i = c.1) && (argsL c.2.2.1 w t i).any fun s => decide (s = c.2.2.2)) := by
  rw [appB]
  congr 1
  by_cases h9 : c.2.2.1 = 9
  · rw [argsL, if_pos h9, h.2.1 h9, decide_eq_true h9]; simp
  · have hne := h.2.2 h9
    rw [argsL, if_neg h9, decide_eq_false h9, Bool.false_or, Bool.eq_iff_iff]
    simp only [List.any_eq_true, decide_eq_true_eq, argF_mem, List.not_mem_nil, false_or, List.mem_map, exists_eq_right]
    constructor
    · rintro ⟨d, hd, he⟩
      rw [atS] at he
      by_cases hb : 0 ≤ (i : Int) + d ∧ (i : Int) + d < (inL c w t).length
      · rw [if_pos hb] at he
        exact ⟨_, ⟨d, hd, rfl⟩, hb, he⟩
      · rw [if_neg hb] at he
        exact absurd he.symm hne
    · rintro ⟨x, ⟨d, hd, rfl⟩, hb, he⟩
      change 0 ≤ (i : Int) + d ∧ (i : Int) + d < (inL c w t).length at hb
      exact ⟨d, hd, by rw [atS, if_pos hb]; exact he⟩
theorem cloneS_own (l : List Str) (h0 : 0 < l.length) (hl : l.length ≤ 8796093022208) : FnS P 75 [sl l] (fun S L r => L = [rowO 9 l] ∧ r = own S 0 l) := by
  (refine fnS_look s75_ok (by simp) fun S hS => cwp_sound _ _ _ _ ?_; simp (maxSteps := 900000) (disch := omega) only [s75, go_sem, Nat.reduceEqDiff, ↓reduceIte, reduceCtorEq, Nat.reduceAdd, Nat.reduceMul, Int.reduceToNat, List.reduceReplicate, Nat.reduceLeDiff, Nat.reduceLT, Int.reduceLT, Int.reduceLE, Int.reduceEq])
  repeat' (first | with_reducible refine inw ?_ | simp (maxSteps := 900000) (disch := omega) only [go_sem, Nat.reduceEqDiff, ↓reduceIte, reduceCtorEq, Nat.reduceAdd, Nat.reduceMul, Int.reduceToNat, List.reduceReplicate, Nat.reduceLeDiff, Nat.reduceLT, Int.reduceLT, Int.reduceLE, Int.reduceEq] | with_reducible refine giv_intro fun _h => ?_ | with_reducible refine alt_intro ?_ fun _h => ?_ | with_reducible refine pickD_nil ?_ | (with_reducible refine brc (fun _h => ?_) fun _h => ?_) <;> first | (exfalso; omega) | simp only [decide_eq_false _h] | simp only [(_h : (_ : Bool) = _)] | simp only [decide_eq_true _h] | skip)
  all_goals first | (exfalso; omega) | (simp [own]; done)
def doneF (c : Change) (w t : List Str) : Nat → List Str
  | 0 => t
  | k + 1 => if appB c w t k = true then putAt (doneF c w t k) k c.2.1 else doneF c w t k
def doneL (c : Change) (w t : List Str) : List Str := doneF c w t t.length
theorem doneF_len {c : Change} {w t : List Str} : ∀ {k : Nat}, k ≤ t.length → (doneF c w t k).length = t.length
  | 0, _ => rfl
  | k + 1, h => by
    have := doneF_len (c := c) (w := w) (t := t) (k := k) (by omega)
    rw [doneF]; split
    · rw [putAt_len (by omega), this]
    · exact this
theorem doneL_len (c : Change) (w t : List Str) : (doneL c w t).length = t.length := doneF_len (Nat.le_refl _)
/-- ablaut/learn.done: 3 parameters, 0 captured -/
def s74 : SC := .seq (.reg [o1 3 (.box 32 4 (.t 0)),
   o1 6 (.mv (.c (.slice none 0 0)))])
  (.seq (.reg [o1 9 (.mv (.t 2)),
    o1 10 (.call (.f 75) [(.t 9)]),
    o1 7 (.mv (.t 10))])
   (.seq (.seq (.reg [o1 11 (.mv (.t 2)),
      o1 12 (.lenL (.t 11)),
      o1 13 (.mv (cI 0))])
     (.block 0 (.loop (.seq (.reg [o1 14 (.bin .lss (.t 13) (.t 12))])
        (.seq (.cond (.t 14) (.skip) (.exit 0))
         (.seq (.block 1 (.seq (.reg [o1 15 (.mv (.t 13)),
             o1 8 (.mv (.t 15))])
            (.seq (.reg [o1 16 (.load (some 4) (.t 3)),
              o1 17 (.mv (.t 1)),
              o1 18 (.mv (.t 2)),
              o1 19 (.mv (.t 8)),
              o1 20 (.call (.f 49) [(.t 16), (.t 17), (.t 18), (.t 19)])])
             (.cond (.t 20) (.reg [o1 21 (.mv (.t 7)),
               o1 22 (.mv (.t 8)),
               o1 23 (.faddr 1 (.t 3)),
               o1 24 (.load none (.t 23)),
               o1 25 (.iaddr 1 (.t 21) (.t 22)),
               o0 (.store 1 (.t 25) (.t 24))]) (.skip)))))
          (.reg [o1 26 (.bin .add (.t 13) (cI 1)),
           o1 13 (.mv (.t 26))])))))))
    (.seq (.reg [o1 27 (.mv (.t 7)),
      o1 6 (.mv (.t 27))])
     (.ret))))
theorem s74_ok : lookF Try.prog 74 = some (s74, 28, [.tmp 6]) := by kernel_rfl
theorem done_ok (c : Change) (w t : List Str) (ht : t.length ≤ 8796093022208) (hk : KdC c) : Fn P 74 [chA c, sl w, sl t] (sl (doneL c w t)) := by
  rcases Nat.eq_zero_or_pos t.length with h0 | h0
  · obtain rfl := List.eq_nil_of_length_eq_zero h0
    have c1 := cloneS_ok ([] : List Str) (by simp)
    (refine fn_look s74_ok (by simp) (by intro k; simp only [go_sem, Nat.reduceEqDiff, ↓reduceIte, reduceCtorEq, Nat.reduceAdd, Nat.reduceMul, Int.reduceToNat, List.reduceReplicate, Nat.reduceLeDiff, Nat.reduceLT, Int.reduceLT, Int.reduceLE, Int.reduceEq]) fun S hS => cwp_sound _ _ _ _ ?_; simp (maxSteps := 900000) (disch := omega) only [s74, go_sem, Nat.reduceEqDiff, ↓reduceIte, reduceCtorEq, Nat.reduceAdd, Nat.reduceMul, Int.reduceToNat, List.reduceReplicate, Nat.reduceLeDiff, Nat.reduceLT, Int.reduceLT, Int.reduceLE, Int.reduceEq])
    repeat' (first | with_reducible refine inw ?_ | simp (maxSteps := 900000) (disch := omega) only [go_sem, Nat.reduceEqDiff, ↓reduceIte, reduceCtorEq, Nat.reduceAdd, Nat.reduceMul, Int.reduceToNat, List.reduceReplicate, Nat.reduceLeDiff, Nat.reduceLT, Int.reduceLT, Int.reduceLE, Int.reduceEq] | (with_reducible apply call (c1)); (focus simp (maxSteps := 900000) (disch := omega) only [go_sem, Nat.reduceEqDiff, ↓reduceIte, reduceCtorEq, Nat.reduceAdd, Nat.reduceMul, Int.reduceToNat, List.reduceReplicate, Nat.reduceLeDiff, Nat.reduceLT, Int.reduceLT, Int.reduceLE, Int.reduceEq] <;> rfl) | with_reducible refine giv_intro fun _h => ?_ | with_reducible refine alt_intro ?_ fun _h => ?_ | with_reducible refine pickD_nil ?_ | (with_reducible refine brc (fun _h => ?_) fun _h => ?_) <;> first | (exfalso; omega) | simp only [decide_eq_false _h] | simp only [(_h : (_ : Bool) = _)] | simp only [decide_eq_true _h] | skip)
    (refine loopC hS [1, 2, 3, 7, 12] (by simp only [go_sem, Nat.reduceEqDiff, ↓reduceIte, reduceCtorEq, Nat.reduceAdd, Nat.reduceMul, Int.reduceToNat, List.reduceReplicate, Nat.reduceLeDiff, Nat.reduceLT, Int.reduceLT, Int.reduceLE, Int.reduceEq]; try rfl) (fun (i : Nat) => [(13, intA 0)]) (fun (i : Nat) => [none]) (fun (i : Nat) => True) (fun (i : Nat) => 0) (0) ?h02 ?hn2 ?rd2; case hn2 => (intro s; first | rfl | (rcases s with ⟨_, _⟩; rfl) | (rcases s with ⟨_, _, _⟩; rfl) | (rcases s with ⟨_, _, _, _⟩; rfl) | (rcases s with ⟨_, _, _, _, _⟩; rfl)))
    · simp (maxSteps := 900000) (disch := omega) only [go_sem, Nat.reduceEqDiff, ↓reduceIte, reduceCtorEq, Nat.reduceAdd, Nat.reduceMul, Int.reduceToNat, List.reduceReplicate, Nat.reduceLeDiff, Nat.reduceLT, Int.reduceLT, Int.reduceLE, Int.reduceEq]
    rintro i _
    repeat' (first | with_reducible refine inw ?_ | simp (maxSteps := 900000) (disch := omega) only [go_sem, Nat.reduceEqDiff, ↓reduceIte, reduceCtorEq, Nat.reduceAdd, Nat.reduceMul, Int.reduceToNat, List.reduceReplicate, Nat.reduceLeDiff, Nat.reduceLT, Int.reduceLT, Int.reduceLE, Int.reduceEq] | with_reducible refine giv_intro fun _h => ?_ | with_reducible refine alt_intro ?_ fun _h => ?_ | with_reducible refine pickD_nil ?_ | (with_reducible refine brc (fun _h => ?_) fun _h => ?_) <;> first | (exfalso; omega) | simp only [decide_eq_false _h] | simp only [(_h : (_ : Bool) = _)] | simp only [decide_eq_true _h] | skip)
    rfl
  · (refine fn_look s74_ok (by simp) (by intro k; simp only [go_sem, Nat.reduceEqDiff, ↓reduceIte, reduceCtorEq, Nat.reduceAdd, Nat.reduceMul, Int.reduceToNat, List.reduceReplicate, Nat.reduceLeDiff, Nat.reduceLT, Int.reduceLT, Int.reduceLE, Int.reduceEq]) fun S hS => cwp_sound _ _ _ _ ?_; simp (maxSteps := 900000) (disch := omega) only [s74, go_sem, Nat.reduceEqDiff, ↓reduceIte, reduceCtorEq, Nat.reduceAdd, Nat.reduceMul, Int.reduceToNat, List.reduceReplicate, Nat.reduceLeDiff, Nat.reduceLT, Int.reduceLT, Int.reduceLE, Int.reduceEq])
    repeat' (first | with_reducible refine inw ?_ | simp (maxSteps := 900000) (disch := omega) only [go_sem, Nat.reduceEqDiff, ↓reduceIte, reduceCtorEq, Nat.reduceAdd, Nat.reduceMul, Int.reduceToNat, List.reduceReplicate, Nat.reduceLeDiff, Nat.reduceLT, Int.reduceLT, Int.reduceLE, Int.reduceEq] | with_reducible refine giv_intro fun _h => ?_ | with_reducible refine alt_intro ?_ fun _h => ?_ | with_reducible refine pickD_nil ?_ | (with_reducible refine brc (fun _h => ?_) fun _h => ?_) <;> first | (exfalso; omega) | simp only [decide_eq_false _h] | simp only [(_h : (_ : Bool) = _)] | simp only [decide_eq_true _h] | skip)
    refine callN (cloneS_own t h0 ht) rfl ?_
    rintro L' r ⟨rfl, rfl⟩
    simp only [own, nm_stk, List.nil_append, List.length_nil, Nat.zero_add]
    repeat' (first | with_reducible refine inw ?_ | simp (maxSteps := 900000) (disch := omega) only [go_sem, Nat.reduceEqDiff, ↓reduceIte, reduceCtorEq, Nat.reduceAdd, Nat.reduceMul, Int.reduceToNat, List.reduceReplicate, Nat.reduceLeDiff, Nat.reduceLT, Int.reduceLT, Int.reduceLE, Int.reduceEq] | with_reducible refine giv_intro fun _h => ?_ | with_reducible refine alt_intro ?_ fun _h => ?_ | with_reducible refine pickD_nil ?_ | (with_reducible refine brc (fun _h => ?_) fun _h => ?_) <;> first | (exfalso; omega) | simp only [decide_eq_false _h] | simp only [(_h : (_ : Bool) = _)] | simp only [decide_eq_true _h] | skip)
    (refine loopC hS [1, 2, 3, 7, 12] (by simp only [go_sem, Nat.reduceEqDiff, ↓reduceIte, reduceCtorEq, Nat.reduceAdd, Nat.reduceMul, Int.reduceToNat, List.reduceReplicate, Nat.reduceLeDiff, Nat.reduceLT, Int.reduceLT, Int.reduceLE, Int.reduceEq]; try rfl) (fun (i : Nat) => [(13, intA i)]) (fun (i : Nat) => [some (Ob.row 32 4 [strA c.1, strA c.2.1, intA c.2.2.1, strA c.2.2.2]), rowO 9 (doneF c w t i)]) (fun (i : Nat) => i ≤ t.length) (fun (i : Nat) => t.length - i) (0) ?h03 ?hn3 ?rd3; case hn3 => (intro s; first | rfl | (rcases s with ⟨_, _⟩; rfl) | (rcases s with ⟨_, _, _⟩; rfl) | (rcases s with ⟨_, _, _, _⟩; rfl) | (rcases s with ⟨_, _, _, _, _⟩; rfl)))
    · simp (maxSteps := 900000) (disch := omega) only [go_sem, Nat.reduceEqDiff, ↓reduceIte, reduceCtorEq, Nat.reduceAdd, Nat.reduceMul, Int.reduceToNat, List.reduceReplicate, Nat.reduceLeDiff, Nat.reduceLT, Int.reduceLT, Int.reduceLE, Int.reduceEq]; simp [doneF]
    rintro i hi
    replace hi : i ≤ t.length := hi
    have hl := doneF_len (c := c) (w := w) hi
    by_cases hil : i < t.length
    · have c1 := applies_ok c w t i hil (by omega) hk.1
      have hs : doneF c w t (i + 1) = if appB c w t i = true then putAt (doneF c w t i) i c.2.1 else doneF c w t i := rfl
      repeat' (first | with_reducible refine inw ?_ | simp (maxSteps := 900000) (disch := omega) only [go_sem, Nat.reduceEqDiff, ↓reduceIte, reduceCtorEq, Nat.reduceAdd, Nat.reduceMul, Int.reduceToNat, List.reduceReplicate, Nat.reduceLeDiff, Nat.reduceLT, Int.reduceLT, Int.reduceLE, Int.reduceEq] | (with_reducible apply call (c1)); (focus simp (maxSteps := 900000) (disch := omega) only [go_sem, Nat.reduceEqDiff, ↓reduceIte, reduceCtorEq, Nat.reduceAdd, Nat.reduceMul, Int.reduceToNat, List.reduceReplicate, Nat.reduceLeDiff, Nat.reduceLT, Int.reduceLT, Int.reduceLE, Int.reduceEq] <;> rfl) | with_reducible refine giv_intro fun _h => ?_ | with_reducible refine alt_intro ?_ fun _h => ?_ | with_reducible refine pickD_nil ?_ | (with_reducible refine brc (fun _h => ?_) fun _h => ?_) <;> first | (exfalso; omega) | simp only [decide_eq_false _h] | simp only [(_h : (_ : Bool) = _)] | simp only [decide_eq_true _h] | skip)
      · exact ⟨i + 1, ⟨by omega, by omega⟩, by omega, by rw [hs, if_pos _h, putAt]; simp⟩
      · exact ⟨i + 1, ⟨by omega, by omega⟩, by omega, by rw [hs, if_neg (by rw [_h]; simp)]⟩
    · have : i = t.length := by omega
      subst this
      repeat' (first | with_reducible refine inw ?_ | simp (maxSteps := 900000) (disch := omega) only [go_sem, Nat.reduceEqDiff, ↓reduceIte, reduceCtorEq, Nat.reduceAdd, Nat.reduceMul, Int.reduceToNat, List.reduceReplicate, Nat.reduceLeDiff, Nat.reduceLT, Int.reduceLT, Int.reduceLE, Int.reduceEq] | with_reducible refine giv_intro fun _h => ?_ | with_reducible refine alt_intro ?_ fun _h => ?_ | with_reducible refine pickD_nil ?_ | (with_reducible refine brc (fun _h => ?_) fun _h => ?_) <;> first | (exfalso; omega) | simp only [decide_eq_false _h] | simp only [(_h : (_ : Bool) = _)] | simp only [decide_eq_true _h] | skip)
      rfl
end Go.Proofs.Ytapgimibdamjoaa.Ev

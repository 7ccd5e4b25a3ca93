/- Applies and Run, both programs. -/
import Derived.Test.YtapgimibdamjoaaZFnNh
set_option linter.unusedVariables false
set_option linter.unusedSimpArgs false
namespace Go.Proofs.Ytapgimibdamjoaa.Ev
open Go Go.Proofs

theorem valC_ok {l : List Change} (h : valC l = 0) : l.length ≤ 24 ∧ ∀ c ∈ l, chB c = true := by
  rw [valC] at h
  split at h
  · omega
  · split at h
    · omega
    · split at h
      · rename_i h1 _ h2
        exact ⟨by omega, List.all_eq_true.1 h2⟩
      · omega
theorem valL_ok {l : List Lesson} (h : valL l = 0) : l.length ≤ 200 ∧ ∀ x ∈ l, longL x = false ∧ fitL x = true ∧ nmL x = true := by
  rw [valL] at h
  split at h
  · omega
  · split at h
    · omega
    · rename_i h1 h2
      split at h
      · rename_i h3
        split at h
        · rename_i h4
          refine ⟨by omega, fun x hx => ⟨?_, List.all_eq_true.1 h3 x hx, List.all_eq_true.1 h4 x hx⟩⟩
          rw [← Bool.not_eq_true]; intro h5
          exact h2 (List.any_eq_true.2 ⟨x, hx, h5⟩)
        · omega
      · omega
theorem les_len {x : Lesson} (h : longL x = false ∧ fitL x = true ∧ nmL x = true) : x.1.length ≤ 200 ∧ x.2.1.length = x.1.length ∧ x.2.2.length = x.1.length := by
  obtain ⟨h1, h2, _⟩ := h
  rw [longL] at h1; rw [fitL] at h2
  simp only [Bool.or_eq_false_iff, decide_eq_false_iff_not, Bool.and_eq_true, decide_eq_true_eq] at h1 h2
  omega
theorem oneT_ok {l : List Change} {w t : List Str} (h : oneT l w t = 0) : (∀ c ∈ l, chB c = true) ∧ t.length ≤ 200 ∧ w.length = t.length := by
  rw [oneT] at h
  split at h
  · contradiction
  · rename_i h1
    have h2 := (valL_ok h).2 _ (List.mem_singleton.2 rfl)
    have h3 := les_len h2
    exact ⟨(valC_ok (by simpa using h1)).2, by have := h3.1; have := h3.2.1; simp at *; omega, by have := h3.2.1; simp at *; omega⟩
abbrev slI (t : List Str × Int) : AV := .tup [sl t.1, intA t.2]
def runT (l : List Change) (w t : List Str) : List Str × Int := if oneT l w t ≠ 0 then ([], oneT l w t) else (runL l w t, 0)
/-- ablaut/learn.Run: 3 parameters, 0 captured -/
def s27 : SC := .seq (.reg [o1 6 (.mv (.c (.slice none 0 0))),
   o1 7 (.mv (cI 0))])
  (.seq (.seq (.reg [o1 9 (.mv (.t 0)),
     o1 10 (.mv (.t 1)),
     o1 11 (.mv (.t 2)),
     o1 12 (.call (.f 48) [(.t 9), (.t 10), (.t 11)]),
     o1 8 (.mv (.t 12))])
    (.seq (.reg [o1 13 (.mv (.t 8)),
      o1 14 (.bin .neq (.t 13) (cI 0))])
     (.cond (.t 14) (.seq (.reg [o1 15 (.mv (.t 8)),
        o1 6 (.mv (.c (.slice none 0 0))),
        o1 7 (.mv (.t 15))])
       (.ret)) (.skip))))
   (.seq (.reg [o1 16 (.mv (.t 0)),
     o1 17 (.mv (.t 1)),
     o1 18 (.mv (.t 2)),
     o1 19 (.call (.f 54) [(.t 16), (.t 17), (.t 18)]),
     o1 6 (.mv (.t 19)),
     o1 7 (.mv (cI 0))])
    (.ret)))
theorem s27_ok : lookF Try.prog 27 = some (s27, 20, [.tmp 6, .tmp 7]) := by kernel_rfl
theorem Run_ok (l : List Change) (w t : List Str) (hl : ∀ c ∈ l, SmC c) (hs : SmL (w, t, t)) : Fn P 27 [sl l, sl w, sl t] (slI (runT l w t)) := by
  have c1 := one_ok l w t hl hs
  by_cases h1 : oneT l w t = 0
  · obtain ⟨hk1, hk2, hk3⟩ := oneT_ok h1
    rw [h1] at c1
    have c2 := run_ok l w t (by omega) (fun c hc => kd_ch (hk1 c hc))
    rw [runT, if_neg (by simpa using h1)]
    (refine fn_look s27_ok (by simp) (by intro k; simp only [go_sem, Nat.reduceEqDiff, ↓reduceIte, reduceCtorEq, Nat.reduceAdd, Nat.reduceMul, Int.reduceToNat, List.reduceReplicate, Nat.reduceLeDiff, Nat.reduceLT, Int.reduceLT, Int.reduceLE, Int.reduceEq]) fun S hS => cwp_sound _ _ _ _ ?_; simp (maxSteps := 900000) (disch := omega) only [s27, go_sem, Nat.reduceEqDiff, ↓reduceIte, reduceCtorEq, Nat.reduceAdd, Nat.reduceMul, Int.reduceToNat, List.reduceReplicate, Nat.reduceLeDiff, Nat.reduceLT, Int.reduceLT, Int.reduceLE, Int.reduceEq])
    repeat' (first | with_reducible refine inw ?_ | simp (maxSteps := 900000) (disch := omega) only [go_sem, Nat.reduceEqDiff, ↓reduceIte, reduceCtorEq, Nat.reduceAdd, Nat.reduceMul, Int.reduceToNat, List.reduceReplicate, Nat.reduceLeDiff, Nat.reduceLT, Int.reduceLT, Int.reduceLE, Int.reduceEq] | (with_reducible apply call (c1)); (focus simp (maxSteps := 900000) (disch := omega) only [go_sem, Nat.reduceEqDiff, ↓reduceIte, reduceCtorEq, Nat.reduceAdd, Nat.reduceMul, Int.reduceToNat, List.reduceReplicate, Nat.reduceLeDiff, Nat.reduceLT, Int.reduceLT, Int.reduceLE, Int.reduceEq] <;> rfl) | (with_reducible apply call (c2)); (focus simp (maxSteps := 900000) (disch := omega) only [go_sem, Nat.reduceEqDiff, ↓reduceIte, reduceCtorEq, Nat.reduceAdd, Nat.reduceMul, Int.reduceToNat, List.reduceReplicate, Nat.reduceLeDiff, Nat.reduceLT, Int.reduceLT, Int.reduceLE, Int.reduceEq] <;> rfl) | with_reducible refine giv_intro fun _h => ?_ | with_reducible refine alt_intro ?_ fun _h => ?_ | with_reducible refine pickD_nil ?_ | (with_reducible refine brc (fun _h => ?_) fun _h => ?_) <;> first | (exfalso; omega) | simp only [decide_eq_false _h] | simp only [(_h : (_ : Bool) = _)] | simp only [decide_eq_true _h] | skip)
    all_goals first | rfl | (exfalso; omega)
  · rw [runT, if_pos h1]
    (refine fn_look s27_ok (by simp) (by intro k; simp only [go_sem, Nat.reduceEqDiff, ↓reduceIte, reduceCtorEq, Nat.reduceAdd, Nat.reduceMul, Int.reduceToNat, List.reduceReplicate, Nat.reduceLeDiff, Nat.reduceLT, Int.reduceLT, Int.reduceLE, Int.reduceEq]) fun S hS => cwp_sound _ _ _ _ ?_; simp (maxSteps := 900000) (disch := omega) only [s27, go_sem, Nat.reduceEqDiff, ↓reduceIte, reduceCtorEq, Nat.reduceAdd, Nat.reduceMul, Int.reduceToNat, List.reduceReplicate, Nat.reduceLeDiff, Nat.reduceLT, Int.reduceLT, Int.reduceLE, Int.reduceEq])
    repeat' (first | with_reducible refine inw ?_ | simp (maxSteps := 900000) (disch := omega) only [go_sem, Nat.reduceEqDiff, ↓reduceIte, reduceCtorEq, Nat.reduceAdd, Nat.reduceMul, Int.reduceToNat, List.reduceReplicate, Nat.reduceLeDiff, Nat.reduceLT, Int.reduceLT, Int.reduceLE, Int.reduceEq] | (with_reducible apply call (c1)); (focus simp (maxSteps := 900000) (disch := omega) only [go_sem, Nat.reduceEqDiff, ↓reduceIte, reduceCtorEq, Nat.reduceAdd, Nat.reduceMul, Int.reduceToNat, List.reduceReplicate, Nat.reduceLeDiff, Nat.reduceLT, Int.reduceLT, Int.reduceLE, Int.reduceEq] <;> rfl) | with_reducible refine giv_intro fun _h => ?_ | with_reducible refine alt_intro ?_ fun _h => ?_ | with_reducible refine pickD_nil ?_ | (with_reducible refine brc (fun _h => ?_) fun _h => ?_) <;> first | (exfalso; omega) | simp only [decide_eq_false _h] | simp only [(_h : (_ : Bool) = _)] | simp only [decide_eq_true _h] | skip)
    all_goals first | rfl | (exfalso; omega)
end Go.Proofs.Ytapgimibdamjoaa.Ev

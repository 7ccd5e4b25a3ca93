/- Changes done one behind the other: both programs; a change asked for a place. -/
import Derived.Test.YtapgimibdamjoaaZFnNg
set_option linter.unusedVariables false
set_option linter.unusedSimpArgs false
namespace Go.Proofs.Ytapgimibdamjoaa.Ev
open Go Go.Proofs

theorem name_ne {s : Str} (h : nameB s = true) : s ≠ ⟨#[]⟩ := by
  rintro rfl
  rw [nameB] at h
  simp only [Bool.and_eq_true, decide_eq_true_eq] at h
  have := h.2.1
  exact absurd this (by decide)
theorem plain_ne {s : Str} (h : plainB s = true) : s ≠ ⟨#[]⟩ := by
  rintro rfl
  rw [plainB] at h
  simp only [Bool.and_eq_true, decide_eq_true_eq] at h
  exact absurd h.2 (by decide)
theorem kd_arg {c : Change} (h0 : 0 ≤ c.2.2.1 ∧ c.2.2.1 ≤ 9) (h : argB c = true) : KdC c := by
  refine ⟨h0, fun h9 => ?_, fun h9 => ?_⟩
  · rw [argB, if_neg (by omega), if_neg (by omega)] at h
    exact of_decide_eq_true h
  · rw [argB] at h
    split at h
    · exact name_ne h
    · rw [if_pos (by omega)] at h
      exact plain_ne h
theorem kd_ch {c : Change} (h : chB c = true) : KdC c := by
  rw [chB] at h
  simp only [Bool.and_eq_true, decide_eq_true_eq] at h
  exact kd_arg ⟨h.1.1.2, h.1.2⟩ h.2
def runL (l : List Change) (w t : List Str) : List Str := l.foldl (fun t c => doneL c w t) t
theorem runL_len (l : List Change) (w : List Str) : ∀ t : List Str, (runL l w t).length = t.length := by
  induction l with
  | nil => intro t; rfl
  | cons c l ih => intro t; rw [runL, List.foldl_cons, ← runL, ih, doneL_len]
theorem runL_step {l : List Change} {i : Nat} (h : i < l.length) (w t : List Str) : runL (l.take (i + 1)) w t = doneL (nth l i) w (runL (l.take i) w t) := by
  rw [runL, List.take_add_one, nth_get? h, List.foldl_append]; rfl
/-- ablaut/learn.run: 3 parameters, 0 captured -/
def s54 : SC := .seq (.reg [o1 6 (.mv (.c (.slice none 0 0)))])
  (.seq (.reg [o1 10 (.mv (.t 2)),
    o1 11 (.call (.f 75) [(.t 10)]),
    o1 7 (.mv (.t 11))])
   (.seq (.seq (.reg [o1 12 (.mv (.t 0)),
      o1 13 (.lenL (.t 12)),
      o1 14 (.mv (cI 0))])
     (.block 0 (.loop (.seq (.reg [o1 15 (.bin .lss (.t 14) (.t 13))])
        (.seq (.cond (.t 15) (.skip) (.exit 0))
         (.seq (.block 1 (.seq (.reg [o1 16 (.iaddr 4 (.t 12) (.t 14)),
             o1 17 (.load (some 4) (.t 16)),
             o1 9 (.alloc 32 4 [(.string ⟨#[]⟩), (.string ⟨#[]⟩), (.int .i64 0), (.string ⟨#[]⟩)]),
             o0 (.store 4 (.t 9) (.t 17))])
            (.reg [o1 18 (.load (some 4) (.t 9)),
             o1 19 (.mv (.t 1)),
             o1 20 (.mv (.t 7)),
             o1 21 (.call (.f 74) [(.t 18), (.t 19), (.t 20)]),
             o1 7 (.mv (.t 21))])))
          (.reg [o1 22 (.bin .add (.t 14) (cI 1)),
           o1 14 (.mv (.t 22))])))))))
    (.seq (.reg [o1 23 (.mv (.t 7)),
      o1 6 (.mv (.t 23))])
     (.ret))))
theorem s54_ok : lookF Try.prog 54 = some (s54, 24, [.tmp 6]) := by kernel_rfl
theorem run_ok (l : List Change) (w t : List Str) (ht : t.length ≤ 8796093022208) (hk : ∀ c ∈ l, KdC c) : Fn P 54 [sl l, sl w, sl t] (sl (runL l w t)) := by
  have c0 := cloneS_ok t ht
  (refine fn_look s54_ok (by simp) (by intro k; simp only [go_sem, Nat.reduceEqDiff, ↓reduceIte, reduceCtorEq, Nat.reduceAdd, Nat.reduceMul, Int.reduceToNat, List.reduceReplicate, Nat.reduceLeDiff, Nat.reduceLT, Int.reduceLT, Int.reduceLE, Int.reduceEq]) fun S hS => cwp_sound _ _ _ _ ?_; simp (maxSteps := 900000) (disch := omega) only [s54, go_sem, Nat.reduceEqDiff, ↓reduceIte, reduceCtorEq, Nat.reduceAdd, Nat.reduceMul, Int.reduceToNat, List.reduceReplicate, Nat.reduceLeDiff, Nat.reduceLT, Int.reduceLT, Int.reduceLE, Int.reduceEq])
  repeat' (first | with_reducible refine inw ?_ | simp (maxSteps := 900000) (disch := omega) only [go_sem, Nat.reduceEqDiff, ↓reduceIte, reduceCtorEq, Nat.reduceAdd, Nat.reduceMul, Int.reduceToNat, List.reduceReplicate, Nat.reduceLeDiff, Nat.reduceLT, Int.reduceLT, Int.reduceLE, Int.reduceEq] | (with_reducible apply call (c0)); (focus simp (maxSteps := 900000) (disch := omega) only [go_sem, Nat.reduceEqDiff, ↓reduceIte, reduceCtorEq, Nat.reduceAdd, Nat.reduceMul, Int.reduceToNat, List.reduceReplicate, Nat.reduceLeDiff, Nat.reduceLT, Int.reduceLT, Int.reduceLE, Int.reduceEq] <;> rfl) | with_reducible refine giv_intro fun _h => ?_ | with_reducible refine alt_intro ?_ fun _h => ?_ | with_reducible refine pickD_nil ?_ | (with_reducible refine brc (fun _h => ?_) fun _h => ?_) <;> first | (exfalso; omega) | simp only [decide_eq_false _h] | simp only [(_h : (_ : Bool) = _)] | simp only [decide_eq_true _h] | skip)
  (refine loopC hS [1, 12, 13] (by simp only [go_sem, Nat.reduceEqDiff, ↓reduceIte, reduceCtorEq, Nat.reduceAdd, Nat.reduceMul, Int.reduceToNat, List.reduceReplicate, Nat.reduceLeDiff, Nat.reduceLT, Int.reduceLT, Int.reduceLE, Int.reduceEq]; try rfl) (fun (i : Nat) => [(7, sl (runL (l.take i) w t)), (14, intA i)]) (fun (i : Nat) => []) (fun (i : Nat) => i ≤ l.length) (fun (i : Nat) => l.length - i) (0) ?h01 ?hn1 ?rd1; case hn1 => (intro s; first | rfl | (rcases s with ⟨_, _⟩; rfl) | (rcases s with ⟨_, _, _⟩; rfl) | (rcases s with ⟨_, _, _, _⟩; rfl) | (rcases s with ⟨_, _, _, _, _⟩; rfl)))
  · simp (maxSteps := 900000) (disch := omega) only [go_sem, Nat.reduceEqDiff, ↓reduceIte, reduceCtorEq, Nat.reduceAdd, Nat.reduceMul, Int.reduceToNat, List.reduceReplicate, Nat.reduceLeDiff, Nat.reduceLT, Int.reduceLT, Int.reduceLE, Int.reduceEq]; simp [runL]
  rintro i hi
  replace hi : i ≤ l.length := hi
  have hl := runL_len (l.take i) w t
  by_cases hil : i < l.length
  · have c1 := done_ok (nth l i) w (runL (l.take i) w t) (by omega) (hk _ (nth_mem hil))
    have hs := runL_step hil w t
    repeat' (first | with_reducible refine inw ?_ | simp (maxSteps := 900000) (disch := omega) only [go_sem, Nat.reduceEqDiff, ↓reduceIte, reduceCtorEq, Nat.reduceAdd, Nat.reduceMul, Int.reduceToNat, List.reduceReplicate, Nat.reduceLeDiff, Nat.reduceLT, Int.reduceLT, Int.reduceLE, Int.reduceEq] | (with_reducible apply call (c1)); (focus simp (maxSteps := 900000) (disch := omega) only [go_sem, Nat.reduceEqDiff, ↓reduceIte, reduceCtorEq, Nat.reduceAdd, Nat.reduceMul, Int.reduceToNat, List.reduceReplicate, Nat.reduceLeDiff, Nat.reduceLT, Int.reduceLT, Int.reduceLE, Int.reduceEq] <;> rfl) | with_reducible refine giv_intro fun _h => ?_ | with_reducible refine alt_intro ?_ fun _h => ?_ | with_reducible refine pickD_nil ?_ | (with_reducible refine brc (fun _h => ?_) fun _h => ?_) <;> first | (exfalso; omega) | simp only [decide_eq_false _h] | simp only [(_h : (_ : Bool) = _)] | simp only [decide_eq_true _h] | skip)
    exact ⟨i + 1, ⟨by omega, by omega⟩, by rw [hs]; exact ⟨rfl, rfl⟩, by omega⟩
  · have : l.take i = l := List.take_of_length_le (by omega)
    rw [this]
    repeat' (first | with_reducible refine inw ?_ | simp (maxSteps := 900000) (disch := omega) only [go_sem, Nat.reduceEqDiff, ↓reduceIte, reduceCtorEq, Nat.reduceAdd, Nat.reduceMul, Int.reduceToNat, List.reduceReplicate, Nat.reduceLeDiff, Nat.reduceLT, Int.reduceLT, Int.reduceLE, Int.reduceEq] | with_reducible refine giv_intro fun _h => ?_ | with_reducible refine alt_intro ?_ fun _h => ?_ | with_reducible refine pickD_nil ?_ | (with_reducible refine brc (fun _h => ?_) fun _h => ?_) <;> first | (exfalso; omega) | simp only [decide_eq_false _h] | simp only [(_h : (_ : Bool) = _)] | simp only [decide_eq_true _h] | skip)
def oneT (l : List Change) (w t : List Str) : Int := if valC l ≠ 0 then valC l else valL [(w, t, t)]
theorem z3_sl : zcells [Value.slice none 0 0, Value.slice none 0 0, Value.slice none 0 0] 3 = [.sc (.slice none 0 0), .sc (.slice none 0 0), .sc (.slice none 0 0)] := rfl
theorem z4_ch : zcells [Value.string ⟨#[]⟩, Value.string ⟨#[]⟩, Value.int .i64 0, Value.string ⟨#[]⟩] 4 = [strA ⟨#[]⟩, strA ⟨#[]⟩, intA 0, strA ⟨#[]⟩] := rfl
/-- ablaut/learn.one: 3 parameters, 0 captured -/
def s48 : SC := .seq (.reg [o1 6 (.mv (cI 0))])
  (.seq (.seq (.reg [o1 8 (.mv (.t 0)),
     o1 9 (.call (.f 13) [(.t 8)]),
     o1 7 (.mv (.t 9))])
    (.seq (.reg [o1 10 (.mv (.t 7)),
      o1 11 (.bin .neq (.t 10) (cI 0))])
     (.cond (.t 11) (.seq (.reg [o1 12 (.mv (.t 7)),
        o1 6 (.mv (.t 12))])
       (.ret)) (.skip))))
   (.seq (.reg [o1 13 (.mv (.t 1)),
     o1 14 (.mv (.t 2)),
     o1 15 (.mv (.t 2)),
     o1 16 (.build [(.slice none 0 0), (.slice none 0 0), (.slice none 0 0)] [(0, 1, (.t 13)), (1, 1, (.t 14)), (2, 1, (.t 15))]),
     o1 17 (.buildSl 56 3 1 [(.slice none 0 0), (.slice none 0 0), (.slice none 0 0)] [(0, 3, (.t 16))]),
     o1 18 (.call (.f 15) [(.t 17)]),
     o1 6 (.mv (.t 18))])
    (.ret)))
theorem s48_ok : lookF Try.prog 48 = some (s48, 19, [.tmp 6]) := by kernel_rfl
theorem one_ok (l : List Change) (w t : List Str) (hl : ∀ c ∈ l, SmC c) (hs : SmL (w, t, t)) : Fn P 48 [sl l, sl w, sl t] (intA (oneT l w t)) := by
  have c1 := validate_ok l hl
  have c2 := validateL_ok [(w, t, t)] (by simpa using hs)
  rw [oneT]
  (refine fn_look s48_ok (by simp) (by intro k; simp only [go_sem, Nat.reduceEqDiff, ↓reduceIte, reduceCtorEq, Nat.reduceAdd, Nat.reduceMul, Int.reduceToNat, List.reduceReplicate, Nat.reduceLeDiff, Nat.reduceLT, Int.reduceLT, Int.reduceLE, Int.reduceEq]) fun S hS => cwp_sound _ _ _ _ ?_; simp (maxSteps := 900000) (disch := omega) only [s48, go_sem, Nat.reduceEqDiff, ↓reduceIte, reduceCtorEq, Nat.reduceAdd, Nat.reduceMul, Int.reduceToNat, List.reduceReplicate, Nat.reduceLeDiff, Nat.reduceLT, Int.reduceLT, Int.reduceLE, Int.reduceEq])
  repeat' (first | with_reducible refine inw ?_ | simp (maxSteps := 900000) (disch := omega) only [go_sem, Nat.reduceEqDiff, ↓reduceIte, reduceCtorEq, Nat.reduceAdd, Nat.reduceMul, Int.reduceToNat, List.reduceReplicate, Nat.reduceLeDiff, Nat.reduceLT, Int.reduceLT, Int.reduceLE, Int.reduceEq, z3_sl] | (with_reducible apply call (c1)); (focus simp (maxSteps := 900000) (disch := omega) only [go_sem, Nat.reduceEqDiff, ↓reduceIte, reduceCtorEq, Nat.reduceAdd, Nat.reduceMul, Int.reduceToNat, List.reduceReplicate, Nat.reduceLeDiff, Nat.reduceLT, Int.reduceLT, Int.reduceLE, Int.reduceEq, z3_sl] <;> rfl) | (with_reducible apply call_give (c2)); (focus simp (maxSteps := 900000) (disch := omega) only [go_sem, Nat.reduceEqDiff, ↓reduceIte, reduceCtorEq, Nat.reduceAdd, Nat.reduceMul, Int.reduceToNat, List.reduceReplicate, Nat.reduceLeDiff, Nat.reduceLT, Int.reduceLT, Int.reduceLE, Int.reduceEq, z3_sl] <;> rfl) | with_reducible refine giv_intro fun _h => ?_ | with_reducible refine alt_intro ?_ fun _h => ?_ | with_reducible refine pickD_nil ?_ | (with_reducible refine brc (fun _h => ?_) fun _h => ?_) <;> first | (exfalso; omega) | simp only [decide_eq_false _h] | simp only [(_h : (_ : Bool) = _)] | simp only [decide_eq_true _h] | skip)
  all_goals first | (rw [if_pos (by assumption)]; done) | (rw [if_neg (by simpa using _h)]; done)
end Go.Proofs.Ytapgimibdamjoaa.Ev

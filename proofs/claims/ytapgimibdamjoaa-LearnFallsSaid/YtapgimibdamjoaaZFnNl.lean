/- Gain and Wrong, both programs. -/
import Derived.Test.YtapgimibdamjoaaZFnNk
set_option linter.unusedVariables false
set_option linter.unusedSimpArgs false
namespace Go.Proofs.Ytapgimibdamjoaa.Ev
open Go Go.Proofs

theorem okLs {ls : List Lesson} (h : valL ls = 0) : OkLs ls := ⟨(valL_ok h).1, fun x hx => les_len ((valL_ok h).2 x hx)⟩
theorem kd_all {l : List Change} (h : valC l = 0) : ∀ c ∈ l, KdC c := fun c hc => kd_ch ((valC_ok h).2 c hc)
abbrev inI (t : Int × Int) : AV := .tup [intA t.1, intA t.2]
def gainT (c : Change) (ls : List Lesson) : Int × Int := if valC [c] ≠ 0 then (0, valC [c]) else if valL ls ≠ 0 then (0, valL ls) else (gainL c ls, 0)
abbrev SmLs (ls : List Lesson) : Prop := ∀ x ∈ ls, SmL x
/-- ablaut/learn.Gain: 2 parameters, 0 captured -/
def s17 : SC := .seq (.reg [o1 2 (.box 32 4 (.t 0)),
   o1 4 (.mv (cI 0)),
   o1 5 (.mv (cI 0))])
  (.seq (.seq (.reg [o1 8 (.load (some 4) (.t 2)),
     o1 9 (.buildSl 32 4 1 [(.string ⟨#[]⟩), (.string ⟨#[]⟩), (.int .i64 0), (.string ⟨#[]⟩)] [(0, 4, (.t 8))]),
     o1 10 (.call (.f 13) [(.t 9)]),
     o1 6 (.mv (.t 10))])
    (.seq (.reg [o1 11 (.mv (.t 6)),
      o1 12 (.bin .neq (.t 11) (cI 0))])
     (.cond (.t 12) (.seq (.reg [o1 13 (.mv (.t 6)),
        o1 4 (.mv (cI 0)),
        o1 5 (.mv (.t 13))])
       (.ret)) (.skip))))
   (.seq (.seq (.reg [o1 14 (.mv (.t 1)),
      o1 15 (.call (.f 15) [(.t 14)]),
      o1 7 (.mv (.t 15))])
     (.seq (.reg [o1 16 (.mv (.t 7)),
       o1 17 (.bin .neq (.t 16) (cI 0))])
      (.cond (.t 17) (.seq (.reg [o1 18 (.mv (.t 7)),
         o1 4 (.mv (cI 0)),
         o1 5 (.mv (.t 18))])
        (.ret)) (.skip))))
    (.seq (.reg [o1 19 (.load (some 4) (.t 2)),
      o1 20 (.mv (.t 1)),
      o1 21 (.call (.f 44) [(.t 19), (.t 20)]),
      o1 4 (.mv (.t 21)),
      o1 5 (.mv (cI 0))])
     (.ret))))
theorem s17_ok : lookF Try.prog 17 = some (s17, 22, [.tmp 4, .tmp 5]) := by kernel_rfl
theorem Gain_ok (c : Change) (ls : List Lesson) (hc : SmC c) (hs : SmLs ls) : Fn P 17 [chA c, sl ls] (inI (gainT c ls)) := by
  have c1 := validate_ok [c] (by simpa using hc)
  have c2 := validateL_ok ls hs
  by_cases h1 : valC [c] = 0
  · rw [h1] at c1
    by_cases h2 : valL ls = 0
    · rw [h2] at c2
      have c3 := gain_ok c ls (kd_all h1 c (by simp)) (okLs h2)
      rw [gainT, if_neg (by simpa using h1), if_neg (by simpa using h2)]
      (refine fn_look s17_ok (by simp) (by intro k; simp only [go_sem, Nat.reduceEqDiff, ↓reduceIte, reduceCtorEq, Nat.reduceAdd, Nat.reduceMul, Int.reduceToNat, List.reduceReplicate, Nat.reduceLeDiff, Nat.reduceLT, Int.reduceLT, Int.reduceLE, Int.reduceEq]) fun S hS => cwp_sound _ _ _ _ ?_; simp (maxSteps := 900000) (disch := omega) only [s17, go_sem, Nat.reduceEqDiff, ↓reduceIte, reduceCtorEq, Nat.reduceAdd, Nat.reduceMul, Int.reduceToNat, List.reduceReplicate, Nat.reduceLeDiff, Nat.reduceLT, Int.reduceLT, Int.reduceLE, Int.reduceEq])
      repeat' (first | with_reducible refine inw ?_ | simp (maxSteps := 900000) (disch := omega) only [go_sem, Nat.reduceEqDiff, ↓reduceIte, reduceCtorEq, Nat.reduceAdd, Nat.reduceMul, Int.reduceToNat, List.reduceReplicate, Nat.reduceLeDiff, Nat.reduceLT, Int.reduceLT, Int.reduceLE, Int.reduceEq, z4_ch] | (with_reducible apply call_lend (c1)); (focus simp (maxSteps := 900000) (disch := omega) only [go_sem, Nat.reduceEqDiff, ↓reduceIte, reduceCtorEq, Nat.reduceAdd, Nat.reduceMul, Int.reduceToNat, List.reduceReplicate, Nat.reduceLeDiff, Nat.reduceLT, Int.reduceLT, Int.reduceLE, Int.reduceEq, z4_ch] <;> rfl); (focus rfl) | (with_reducible apply call (c2)); (focus simp (maxSteps := 900000) (disch := omega) only [go_sem, Nat.reduceEqDiff, ↓reduceIte, reduceCtorEq, Nat.reduceAdd, Nat.reduceMul, Int.reduceToNat, List.reduceReplicate, Nat.reduceLeDiff, Nat.reduceLT, Int.reduceLT, Int.reduceLE, Int.reduceEq, z4_ch] <;> rfl) | (with_reducible apply call (c3)); (focus simp (maxSteps := 900000) (disch := omega) only [go_sem, Nat.reduceEqDiff, ↓reduceIte, reduceCtorEq, Nat.reduceAdd, Nat.reduceMul, Int.reduceToNat, List.reduceReplicate, Nat.reduceLeDiff, Nat.reduceLT, Int.reduceLT, Int.reduceLE, Int.reduceEq, z4_ch] <;> rfl) | with_reducible refine giv_intro fun _h => ?_ | with_reducible refine alt_intro ?_ fun _h => ?_ | with_reducible refine pickD_nil ?_ | (with_reducible refine brc (fun _h => ?_) fun _h => ?_) <;> first | (exfalso; omega) | simp only [decide_eq_false _h] | simp only [(_h : (_ : Bool) = _)] | simp only [decide_eq_true _h] | skip)
      all_goals first | rfl | (exfalso; omega)
    · rw [gainT, if_neg (by simpa using h1), if_pos h2]
      (refine fn_look s17_ok (by simp) (by intro k; simp only [go_sem, Nat.reduceEqDiff, ↓reduceIte, reduceCtorEq, Nat.reduceAdd, Nat.reduceMul, Int.reduceToNat, List.reduceReplicate, Nat.reduceLeDiff, Nat.reduceLT, Int.reduceLT, Int.reduceLE, Int.reduceEq]) fun S hS => cwp_sound _ _ _ _ ?_; simp (maxSteps := 900000) (disch := omega) only [s17, go_sem, Nat.reduceEqDiff, ↓reduceIte, reduceCtorEq, Nat.reduceAdd, Nat.reduceMul, Int.reduceToNat, List.reduceReplicate, Nat.reduceLeDiff, Nat.reduceLT, Int.reduceLT, Int.reduceLE, Int.reduceEq])
      repeat' (first | with_reducible refine inw ?_ | simp (maxSteps := 900000) (disch := omega) only [go_sem, Nat.reduceEqDiff, ↓reduceIte, reduceCtorEq, Nat.reduceAdd, Nat.reduceMul, Int.reduceToNat, List.reduceReplicate, Nat.reduceLeDiff, Nat.reduceLT, Int.reduceLT, Int.reduceLE, Int.reduceEq, z4_ch] | (with_reducible apply call_lend (c1)); (focus simp (maxSteps := 900000) (disch := omega) only [go_sem, Nat.reduceEqDiff, ↓reduceIte, reduceCtorEq, Nat.reduceAdd, Nat.reduceMul, Int.reduceToNat, List.reduceReplicate, Nat.reduceLeDiff, Nat.reduceLT, Int.reduceLT, Int.reduceLE, Int.reduceEq, z4_ch] <;> rfl); (focus rfl) | (with_reducible apply call (c2)); (focus simp (maxSteps := 900000) (disch := omega) only [go_sem, Nat.reduceEqDiff, ↓reduceIte, reduceCtorEq, Nat.reduceAdd, Nat.reduceMul, Int.reduceToNat, List.reduceReplicate, Nat.reduceLeDiff, Nat.reduceLT, Int.reduceLT, Int.reduceLE, Int.reduceEq, z4_ch] <;> rfl) | with_reducible refine giv_intro fun _h => ?_ | with_reducible refine alt_intro ?_ fun _h => ?_ | with_reducible refine pickD_nil ?_ | (with_reducible refine brc (fun _h => ?_) fun _h => ?_) <;> first | (exfalso; omega) | simp only [decide_eq_false _h] | simp only [(_h : (_ : Bool) = _)] | simp only [decide_eq_true _h] | skip)
      all_goals first | rfl | (exfalso; omega)
  · rw [gainT, if_pos h1]
    (refine fn_look s17_ok (by simp) (by intro k; simp only [go_sem, Nat.reduceEqDiff, ↓reduceIte, reduceCtorEq, Nat.reduceAdd, Nat.reduceMul, Int.reduceToNat, List.reduceReplicate, Nat.reduceLeDiff, Nat.reduceLT, Int.reduceLT, Int.reduceLE, Int.reduceEq]) fun S hS => cwp_sound _ _ _ _ ?_; simp (maxSteps := 900000) (disch := omega) only [s17, go_sem, Nat.reduceEqDiff, ↓reduceIte, reduceCtorEq, Nat.reduceAdd, Nat.reduceMul, Int.reduceToNat, List.reduceReplicate, Nat.reduceLeDiff, Nat.reduceLT, Int.reduceLT, Int.reduceLE, Int.reduceEq])
    repeat' (first | with_reducible refine inw ?_ | simp (maxSteps := 900000) (disch := omega) only [go_sem, Nat.reduceEqDiff, ↓reduceIte, reduceCtorEq, Nat.reduceAdd, Nat.reduceMul, Int.reduceToNat, List.reduceReplicate, Nat.reduceLeDiff, Nat.reduceLT, Int.reduceLT, Int.reduceLE, Int.reduceEq, z4_ch] | (with_reducible apply call_lend (c1)); (focus simp (maxSteps := 900000) (disch := omega) only [go_sem, Nat.reduceEqDiff, ↓reduceIte, reduceCtorEq, Nat.reduceAdd, Nat.reduceMul, Int.reduceToNat, List.reduceReplicate, Nat.reduceLeDiff, Nat.reduceLT, Int.reduceLT, Int.reduceLE, Int.reduceEq, z4_ch] <;> rfl); (focus rfl) | (with_reducible apply call (c2)); (focus simp (maxSteps := 900000) (disch := omega) only [go_sem, Nat.reduceEqDiff, ↓reduceIte, reduceCtorEq, Nat.reduceAdd, Nat.reduceMul, Int.reduceToNat, List.reduceReplicate, Nat.reduceLeDiff, Nat.reduceLT, Int.reduceLT, Int.reduceLE, Int.reduceEq, z4_ch] <;> rfl) | with_reducible refine giv_intro fun _h => ?_ | with_reducible refine alt_intro ?_ fun _h => ?_ | with_reducible refine pickD_nil ?_ | (with_reducible refine brc (fun _h => ?_) fun _h => ?_) <;> first | (exfalso; omega) | simp only [decide_eq_false _h] | simp only [(_h : (_ : Bool) = _)] | simp only [decide_eq_true _h] | skip)
    all_goals first | rfl | (exfalso; omega)
end Go.Proofs.Ytapgimibdamjoaa.Ev

/- Both find the same pairs: the law. -/
import Derived.Test.YtpfoflhhbkjngaaZFnIl
set_option linter.unusedVariables false
set_option linter.unusedSimpArgs false
namespace Go.Proofs.Ytpfoflhhbkjngaa.Ev
open Go Go.Proofs

/-- ablaut/ablautlaw13.HarmUnjoins: 2 parameters, 0 captured -/
def s12 : SC := .seq (.reg [o1 4 (.mv (cB false))])
  (.seq (.seq (.reg [o1 10 (.mv (.t 0)),
     o1 11 (.call (.f 30) [(.t 10)]),
     o1 12 (.bin .gtr (.t 11) (cI 32000)),
     o1 13 (.mv (.t 12)),
     oF 14 (.mv (.t 1)) 13,
     oF 15 (.buildSl 22 1 1 [(.slice none 0 0)] [(0, 1, (.t 14))]) 13,
     oF 16 (.call (.f 16) [(.t 15)]) 13,
     oF 17 (.bin .gtr (.t 16) (cI 32000)) 13,
     o1 18 (.pick (.t 13) (cB true) (.t 17))])
    (.cond (.t 18) (.seq (.reg [o1 19 (.call (.f 17) []),
       o1 4 (.mv (.t 19))])
      (.ret)) (.skip)))
   (.seq (.reg [o1 21 (.mv (.t 0)),
     o1 22 (.mv (.t 1)),
     o1 23 (.call (.f 44) [(.t 21), (.t 22)]),
     o1 20 (.mv (.t 23)),
     o1 24 (.ext (.t 20) 0),
     o1 25 (.ext (.t 20) 1),
     o1 5 (.mv (.t 24)),
     o1 6 (.mv (.t 25))])
    (.seq (.reg [o1 27 (.mv (.t 0)),
      o1 28 (.mv (.t 1)),
      o1 29 (.call (.f 45) [(.t 27), (.t 28)]),
      o1 26 (.mv (.t 29)),
      o1 30 (.ext (.t 26) 0),
      o1 31 (.ext (.t 26) 1),
      o1 7 (.mv (.t 30)),
      o1 8 (.mv (.t 31))])
     (.seq (.seq (.reg [o1 32 (.mv (.t 5)),
        o1 33 (.lenL (.t 32)),
        o1 34 (.mv (.t 7)),
        o1 35 (.lenL (.t 34)),
        o1 36 (.bin .neq (.t 33) (.t 35)),
        o1 37 (.mv (.t 36)),
        oF 38 (.mv (.t 6)) 37,
        oF 39 (.mv (.t 8)) 37,
        oF 40 (.bin .neq (.t 38) (.t 39)) 37,
        o1 41 (.pick (.t 37) (cB true) (.t 40))])
       (.cond (.t 41) (.seq (.reg [o1 4 (.mv (cB false))])
         (.ret)) (.skip)))
      (.seq (.seq (.reg [o1 9 (.mv (cI 0))])
        (.block 0 (.loop (.seq (.seq (.reg [o1 42 (.mv (.t 9)),
             o1 43 (.mv (.t 5)),
             o1 44 (.lenL (.t 43)),
             o1 45 (.bin .lss (.t 42) (.t 44))])
            (.cond (.t 45) (.skip) (.exit 0)))
           (.seq (.block 1 (.seq (.regC [(false, o1 48 (.mv (.t 5))),
               (false, o1 49 (.mv (.t 9))),
               (false, o1 50 (.iaddr 2 (.t 48) (.t 49))),
               (false, o1 51 (.iaddrA 2 1 (.t 50) (cI 0))),
               (false, o1 52 (.load none (.t 51))),
               (false, o1 53 (.mv (.t 7))),
               (false, o1 54 (.mv (.t 9))),
               (false, o1 55 (.iaddr 2 (.t 53) (.t 54))),
               (false, o1 56 (.iaddrA 2 1 (.t 55) (cI 0))),
               (false, o1 57 (.load none (.t 56))),
               (true, o1 58 (.call (.f 22) [(.t 52), (.t 57)])),
               (false, o1 59 (.un .not (.t 58))),
               (false, o1 60 (.mv (.t 59))),
               (false, oF 61 (.mv (.t 5)) 60),
               (false, oF 62 (.mv (.t 9)) 60),
               (false, oF 63 (.iaddr 2 (.t 61) (.t 62)) 60),
               (false, oF 64 (.iaddrA 2 1 (.t 63) (cI 1)) 60),
               (false, oF 65 (.load none (.t 64)) 60),
               (false, oF 66 (.mv (.t 7)) 60),
               (false, oF 67 (.mv (.t 9)) 60),
               (false, oF 68 (.iaddr 2 (.t 66) (.t 67)) 60),
               (false, oF 69 (.iaddrA 2 1 (.t 68) (cI 1)) 60),
               (false, oF 70 (.load none (.t 69)) 60),
               (true, oF 71 (.call (.f 22) [(.t 65), (.t 70)]) 60),
               (false, oF 72 (.un .not (.t 71)) 60),
               (false, o1 73 (.pick (.t 60) (cB true) (.t 72)))])
              (.cond (.t 73) (.seq (.reg [o1 4 (.mv (cB false))])
                (.ret)) (.skip))))
            (.reg [o1 46 (.mv (.t 9)),
             o1 47 (.bin .add (.t 46) (cI 1)),
             o1 9 (.mv (.t 47))]))))))
       (.seq (.reg [o1 74 (.call (.f 17) []),
         o1 4 (.mv (.t 74))])
        (.ret)))))))
theorem s12_ok : lookF Try.prog 12 = some (s12, 75, [.tmp 4]) := by kernel_rfl
set_option maxHeartbeats 1000000 in
theorem HarmUnjoins_ok (l : List Joint) (w : List Str) : Fn P 12 [sl l, sl w] (boolA true) := by
  have k1 := hUnsandhi_ok l w
  have k2 := rUnsandhi_ok l w
  generalize unT l w = T at *
  obtain ⟨t, te⟩ := T
  dsimp only at *
  (refine fn_look s12_ok (by simp) (by intro k; simp only [go_sem, Nat.reduceEqDiff, ↓reduceIte, reduceCtorEq, Nat.reduceAdd, Nat.reduceMul, Int.reduceToNat, List.reduceReplicate, Nat.reduceLeDiff, Nat.reduceLT, Int.reduceLT, Int.reduceLE, Int.reduceEq]) fun S hS => cwp_sound _ _ _ _ ?_; simp (maxSteps := 900000) (disch := omega) only [s12, go_sem, Nat.reduceEqDiff, ↓reduceIte, reduceCtorEq, Nat.reduceAdd, Nat.reduceMul, Int.reduceToNat, List.reduceReplicate, Nat.reduceLeDiff, Nat.reduceLT, Int.reduceLT, Int.reduceLE, Int.reduceEq])
  repeat' (first | with_reducible refine inw ?_ | simp (maxSteps := 900000) (disch := omega) only [go_sem, Nat.reduceEqDiff, ↓reduceIte, reduceCtorEq, Nat.reduceAdd, Nat.reduceMul, Int.reduceToNat, List.reduceReplicate, Nat.reduceLeDiff, Nat.reduceLT, Int.reduceLT, Int.reduceLE, Int.reduceEq] | (with_reducible apply call (known_ok)); (focus simp (maxSteps := 900000) (disch := omega) only [go_sem, Nat.reduceEqDiff, ↓reduceIte, reduceCtorEq, Nat.reduceAdd, Nat.reduceMul, Int.reduceToNat, List.reduceReplicate, Nat.reduceLeDiff, Nat.reduceLT, Int.reduceLT, Int.reduceLE, Int.reduceEq] <;> rfl) | (with_reducible apply callR (lJoints_ok l)); (focus simp (maxSteps := 900000) (disch := omega) only [go_sem, Nat.reduceEqDiff, ↓reduceIte, reduceCtorEq, Nat.reduceAdd, Nat.reduceMul, Int.reduceToNat, List.reduceReplicate, Nat.reduceLeDiff, Nat.reduceLT, Int.reduceLT, Int.reduceLE, Int.reduceEq] <;> rfl); rintro _ ⟨_, rfl⟩ | (with_reducible apply callR_lend (bytes_ok [w] (by simp))); (focus simp (maxSteps := 900000) (disch := omega) only [go_sem, Nat.reduceEqDiff, ↓reduceIte, reduceCtorEq, Nat.reduceAdd, Nat.reduceMul, Int.reduceToNat, List.reduceReplicate, Nat.reduceLeDiff, Nat.reduceLT, Int.reduceLT, Int.reduceLE, Int.reduceEq] <;> rfl); (focus (rintro _ ⟨_, rfl⟩; rfl)); rintro _ ⟨_, rfl⟩ | (with_reducible apply call (k1)); (focus simp (maxSteps := 900000) (disch := omega) only [go_sem, Nat.reduceEqDiff, ↓reduceIte, reduceCtorEq, Nat.reduceAdd, Nat.reduceMul, Int.reduceToNat, List.reduceReplicate, Nat.reduceLeDiff, Nat.reduceLT, Int.reduceLT, Int.reduceLE, Int.reduceEq] <;> rfl) | (with_reducible apply call (k2)); (focus simp (maxSteps := 900000) (disch := omega) only [go_sem, Nat.reduceEqDiff, ↓reduceIte, reduceCtorEq, Nat.reduceAdd, Nat.reduceMul, Int.reduceToNat, List.reduceReplicate, Nat.reduceLeDiff, Nat.reduceLT, Int.reduceLT, Int.reduceLE, Int.reduceEq] <;> rfl) | with_reducible refine pickB_f ?_ | with_reducible refine giv_intro fun _h => ?_ | with_reducible refine alt_intro ?_ fun _h => ?_ | with_reducible refine pickD_nil ?_ | (with_reducible refine brc (fun _h => ?_) fun _h => ?_) <;> first | (exfalso; omega) | simp only [decide_eq_false _h] | simp only [(_h : (_ : Bool) = _)] | simp only [decide_eq_true _h] | skip)
  (refine loopC hS [5, 7] (by simp only [go_sem, Nat.reduceEqDiff, ↓reduceIte, reduceCtorEq, Nat.reduceAdd, Nat.reduceMul, Int.reduceToNat, List.reduceReplicate, Nat.reduceLeDiff, Nat.reduceLT, Int.reduceLT, Int.reduceLE, Int.reduceEq]; try rfl) (fun (i : Nat) => [(9, intA i)]) (fun (i : Nat) => [none]) (fun (i : Nat) => i ≤ t.length) (fun (i : Nat) => t.length - i) (0) ?_ (by intro s; first | (simp only [List.length_cons, List.length_nil]; done) | rfl | (rcases s with ⟨_, _⟩; rfl) | (rcases s with ⟨_, _, _⟩; rfl) | (rcases s with ⟨_, _, _, _⟩; rfl) | (rcases s with ⟨_, _, _, _, _⟩; rfl)) ?_)
  · simp (maxSteps := 900000) (disch := omega) only [go_sem, Nat.reduceEqDiff, ↓reduceIte, reduceCtorEq, Nat.reduceAdd, Nat.reduceMul, Int.reduceToNat, List.reduceReplicate, Nat.reduceLeDiff, Nat.reduceLT, Int.reduceLT, Int.reduceLE, Int.reduceEq]
    exact Nat.zero_le _
  rintro i hi
  replace hi : i ≤ t.length := hi
  by_cases hil : i < t.length
  · have x0 := pr_0 hil
    have x1 := pr_1 hil
    have s1 := Same_ok (nth t i).1 (nth t i).1
    have s2 := Same_ok (nth t i).2 (nth t i).2
    rw [decide_eq_true rfl] at s1 s2
    repeat' (first | with_reducible refine inw ?_ | simp (maxSteps := 900000) (disch := omega) only [go_sem, Nat.reduceEqDiff, ↓reduceIte, reduceCtorEq, Nat.reduceAdd, Nat.reduceMul, Int.reduceToNat, List.reduceReplicate, Nat.reduceLeDiff, Nat.reduceLT, Int.reduceLT, Int.reduceLE, Int.reduceEq, x0, x1] | (with_reducible apply call_D (s1)); (focus simp (maxSteps := 900000) (disch := omega) only [go_sem, Nat.reduceEqDiff, ↓reduceIte, reduceCtorEq, Nat.reduceAdd, Nat.reduceMul, Int.reduceToNat, List.reduceReplicate, Nat.reduceLeDiff, Nat.reduceLT, Int.reduceLT, Int.reduceLE, Int.reduceEq, x0, x1] <;> rfl) | (with_reducible apply call_D (s2)); (focus simp (maxSteps := 900000) (disch := omega) only [go_sem, Nat.reduceEqDiff, ↓reduceIte, reduceCtorEq, Nat.reduceAdd, Nat.reduceMul, Int.reduceToNat, List.reduceReplicate, Nat.reduceLeDiff, Nat.reduceLT, Int.reduceLT, Int.reduceLE, Int.reduceEq, x0, x1] <;> rfl) | with_reducible refine pickB_f ?_ | with_reducible refine giv_intro fun _h => ?_ | with_reducible refine alt_intro ?_ fun _h => ?_ | with_reducible refine pickD_nil ?_ | (with_reducible refine brc (fun _h => ?_) fun _h => ?_) <;> first | (exfalso; omega) | simp only [decide_eq_false _h] | simp only [(_h : (_ : Bool) = _)] | simp only [decide_eq_true _h] | skip)
    exact ⟨i + 1, ⟨by omega, by omega⟩, by omega⟩
  · obtain rfl : i = t.length := by omega
    repeat' (first | with_reducible refine inw ?_ | simp (maxSteps := 900000) (disch := omega) only [go_sem, Nat.reduceEqDiff, ↓reduceIte, reduceCtorEq, Nat.reduceAdd, Nat.reduceMul, Int.reduceToNat, List.reduceReplicate, Nat.reduceLeDiff, Nat.reduceLT, Int.reduceLT, Int.reduceLE, Int.reduceEq] | (with_reducible apply call (known_ok)); (focus simp (maxSteps := 900000) (disch := omega) only [go_sem, Nat.reduceEqDiff, ↓reduceIte, reduceCtorEq, Nat.reduceAdd, Nat.reduceMul, Int.reduceToNat, List.reduceReplicate, Nat.reduceLeDiff, Nat.reduceLT, Int.reduceLT, Int.reduceLE, Int.reduceEq] <;> rfl) | with_reducible refine pickB_f ?_ | with_reducible refine giv_intro fun _h => ?_ | with_reducible refine alt_intro ?_ fun _h => ?_ | with_reducible refine pickD_nil ?_ | (with_reducible refine brc (fun _h => ?_) fun _h => ?_) <;> first | (exfalso; omega) | simp only [decide_eq_false _h] | simp only [(_h : (_ : Bool) = _)] | simp only [decide_eq_true _h] | skip)
end Go.Proofs.Ytpfoflhhbkjngaa.Ev

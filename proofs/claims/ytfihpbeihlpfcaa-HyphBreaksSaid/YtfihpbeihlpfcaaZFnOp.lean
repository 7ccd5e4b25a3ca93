/- HyphBreaks: the law. -/
import Derived.Test.YtfihpbeihlpfcaaZFnOo
set_option linter.unusedVariables false
set_option linter.unusedSimpArgs false
namespace Go.Proofs.Ytfihpbeihlpfcaa.Ev
open Go Go.Proofs

/-- ablaut/ablautlaw24.HyphBreaks: 2 parameters, 0 captured -/
def s4 : SC := .seq (.reg [o1 2 (.box 37 5 (.t 0)),
   o1 4 (.mv (cB false))])
  (.seq (.seq (.reg [o1 17 (.load (some 5) (.t 2)),
     o1 18 (.call (.f 14) [(.t 17)]),
     o1 19 (.mv (.t 18)),
     oF 20 (.mv (.t 1)) 19,
     oF 21 (.buildSl 22 1 1 [(.slice none 0 0)] [(0, 1, (.t 20))]) 19,
     oF 22 (.call (.f 15) [(.t 21)]) 19,
     o1 23 (.pick (.t 19) (cB true) (.t 22))])
    (.cond (.t 23) (.seq (.reg [o1 24 (.call (.f 11) []),
       o1 4 (.mv (.t 24))])
      (.ret)) (.skip)))
   (.seq (.reg [o1 26 (.load (some 5) (.t 2)),
     o1 27 (.mv (.t 1)),
     o1 28 (.call (.f 16) [(.t 26), (.t 27)]),
     o1 25 (.mv (.t 28)),
     o1 29 (.ext (.t 25) 0),
     o1 30 (.ext (.t 25) 1),
     o1 5 (.mv (.t 29)),
     o1 6 (.mv (.t 30))])
    (.seq (.reg [o1 32 (.load (some 5) (.t 2)),
      o1 33 (.mv (.t 1)),
      o1 34 (.call (.f 17) [(.t 32), (.t 33)]),
      o1 31 (.mv (.t 34)),
      o1 35 (.ext (.t 31) 0),
      o1 36 (.ext (.t 31) 1),
      o1 7 (.mv (.t 35)),
      o1 8 (.mv (.t 36))])
     (.seq (.reg [o1 38 (.load (some 5) (.t 2)),
       o1 39 (.mv (.t 1)),
       o1 40 (.call (.f 12) [(.t 38), (.t 39)]),
       o1 37 (.mv (.t 40)),
       o1 41 (.ext (.t 37) 0),
       o1 42 (.ext (.t 37) 1),
       o1 9 (.mv (.t 41)),
       o1 10 (.mv (.t 42))])
      (.seq (.reg [o1 44 (.load (some 5) (.t 2)),
        o1 45 (.mv (.t 1)),
        o1 46 (.call (.f 18) [(.t 44), (.t 45)]),
        o1 43 (.mv (.t 46)),
        o1 47 (.ext (.t 43) 0),
        o1 48 (.ext (.t 43) 1),
        o1 11 (.mv (.t 47)),
        o1 12 (.mv (.t 48))])
       (.seq (.reg [o1 50 (.load (some 5) (.t 2)),
         o1 51 (.mv (.t 1)),
         o1 52 (.call (.f 19) [(.t 50), (.t 51)]),
         o1 49 (.mv (.t 52)),
         o1 53 (.ext (.t 49) 0),
         o1 54 (.ext (.t 49) 1),
         o1 13 (.mv (.t 53)),
         o1 14 (.mv (.t 54))])
        (.seq (.reg [o1 56 (.load (some 5) (.t 2)),
          o1 57 (.mv (.t 1)),
          o1 58 (.call (.f 20) [(.t 56), (.t 57)]),
          o1 55 (.mv (.t 58)),
          o1 59 (.ext (.t 55) 0),
          o1 60 (.ext (.t 55) 1),
          o1 15 (.mv (.t 59)),
          o1 16 (.mv (.t 60))])
         (.seq (.regC [(false, o1 61 (.load (some 5) (.t 2))),
           (false, o1 62 (.call (.f 21) [(.t 61)])),
           (false, o1 63 (.load (some 5) (.t 2))),
           (true, o1 64 (.call (.f 22) [(.t 63)])),
           (false, o1 65 (.bin .eql (.t 62) (.t 64))),
           (false, o1 66 (.mv (.t 65))),
           (false, oT 67 (.mv (.t 5)) 66),
           (false, oT 68 (.mv (.t 7)) 66),
           (true, oT 69 (.call (.f 13) [(.t 67), (.t 68)]) 66),
           (false, o1 70 (.pick (.t 66) (.t 69) (cB false))),
           (false, o1 71 (.mv (.t 70))),
           (false, oT 72 (.mv (.t 6)) 71),
           (false, oT 73 (.mv (.t 8)) 71),
           (false, oT 74 (.bin .eql (.t 72) (.t 73)) 71),
           (false, o1 75 (.pick (.t 71) (.t 74) (cB false))),
           (false, o1 76 (.mv (.t 75))),
           (false, oT 77 (.mv (.t 9)) 76),
           (false, oT 78 (.mv (.t 11)) 76),
           (true, oT 79 (.call (.f 13) [(.t 77), (.t 78)]) 76),
           (false, o1 80 (.pick (.t 76) (.t 79) (cB false))),
           (false, o1 81 (.mv (.t 80))),
           (false, oT 82 (.mv (.t 10)) 81),
           (false, oT 83 (.mv (.t 12)) 81),
           (false, oT 84 (.bin .eql (.t 82) (.t 83)) 81),
           (false, o1 85 (.pick (.t 81) (.t 84) (cB false))),
           (false, o1 86 (.mv (.t 85))),
           (false, oT 87 (.mv (.t 13)) 86),
           (false, oT 88 (.mv (.t 15)) 86),
           (false, oT 89 (.bin .eql (.t 87) (.t 88)) 86),
           (false, o1 90 (.pick (.t 86) (.t 89) (cB false))),
           (false, o1 91 (.mv (.t 90))),
           (false, oT 92 (.mv (.t 14)) 91),
           (false, oT 93 (.mv (.t 16)) 91),
           (false, oT 94 (.bin .eql (.t 92) (.t 93)) 91),
           (false, o1 95 (.pick (.t 91) (.t 94) (cB false))),
           (false, o1 96 (.mv (.t 95))),
           (true, oT 97 (.call (.f 11) []) 96),
           (false, o1 98 (.pick (.t 96) (.t 97) (cB false))),
           (false, o1 4 (.mv (.t 98)))])
          (.ret)))))))))
theorem s4_ok : lookF Try.prog 4 = some (s4, 99, [.tmp 4]) := by kernel_rfl
theorem HyphBreaks_ok (h : Book) (w : List Str) : Fn P 4 [bkA h, sl w] (boolA true) := by
  have c0 := over_ok h
  have c1 := hLevels_ok h w
  have c2 := rLevels_fn h w
  have c3 := hBreaksF_ok h w
  have c4 := rBreaksF_ok h w
  have c5 := hShow_ok h w
  have c6 := rShow_ok h w
  have c7 := hValidate_ok h
  have c8 := rValidate_ok h
  generalize lvsR h w = R1 at *
  generalize bksR h w = R2 at *
  generalize shwR h w = R3 at *
  generalize vErr h = e0 at *
  obtain ⟨l1, e1⟩ := R1
  obtain ⟨l2, e2⟩ := R2
  obtain ⟨l3, e3⟩ := R3
  have c9 := sameInts_ok l1 l1
  have c10 := sameInts_ok l2 l2
  rw [decide_eq_true rfl] at c9 c10
  obtain ⟨lf, rt, ps, xs, ts⟩ := h
  have z1 : zcells [Value.slice none 0 0] 1 = [.sc (.slice none 0 0)] := rfl
  (refine fn_look s4_ok (by simp) (by intro k; simp only [go_sem, Nat.reduceEqDiff, ↓reduceIte, reduceCtorEq, Nat.reduceAdd, Nat.reduceMul, Int.reduceToNat, List.reduceReplicate, Nat.reduceLeDiff, Nat.reduceLT, Int.reduceLT, Int.reduceLE, Int.reduceEq]) fun S hS => cwp_sound _ _ _ _ ?_; simp (maxSteps := 900000) (disch := omega) only [s4, go_sem, Nat.reduceEqDiff, ↓reduceIte, reduceCtorEq, Nat.reduceAdd, Nat.reduceMul, Int.reduceToNat, List.reduceReplicate, Nat.reduceLeDiff, Nat.reduceLT, Int.reduceLT, Int.reduceLE, Int.reduceEq])
  repeat' (first | with_reducible refine inw ?_ | simp (maxSteps := 900000) (disch := omega) only [go_sem, Nat.reduceEqDiff, ↓reduceIte, reduceCtorEq, Nat.reduceAdd, Nat.reduceMul, Int.reduceToNat, List.reduceReplicate, Nat.reduceLeDiff, Nat.reduceLT, Int.reduceLT, Int.reduceLE, Int.reduceEq, z1] | (with_reducible apply call (known_ok)); (focus simp (maxSteps := 900000) (disch := omega) only [go_sem, Nat.reduceEqDiff, ↓reduceIte, reduceCtorEq, Nat.reduceAdd, Nat.reduceMul, Int.reduceToNat, List.reduceReplicate, Nat.reduceLeDiff, Nat.reduceLT, Int.reduceLT, Int.reduceLE, Int.reduceEq, z1] <;> rfl) | (with_reducible apply callR (c0)); (focus simp (maxSteps := 900000) (disch := omega) only [go_sem, Nat.reduceEqDiff, ↓reduceIte, reduceCtorEq, Nat.reduceAdd, Nat.reduceMul, Int.reduceToNat, List.reduceReplicate, Nat.reduceLeDiff, Nat.reduceLT, Int.reduceLT, Int.reduceLE, Int.reduceEq, z1] <;> rfl); rintro _ ⟨_, rfl⟩ | (with_reducible apply callR_lend (lIsLong_ok [w])); (focus simp (maxSteps := 900000) (disch := omega) only [go_sem, Nat.reduceEqDiff, ↓reduceIte, reduceCtorEq, Nat.reduceAdd, Nat.reduceMul, Int.reduceToNat, List.reduceReplicate, Nat.reduceLeDiff, Nat.reduceLT, Int.reduceLT, Int.reduceLE, Int.reduceEq, z1] <;> rfl); (focus (rintro _ ⟨_, rfl⟩; rfl)); rintro _ ⟨_, rfl⟩ | (with_reducible apply call (c1)); (focus simp (maxSteps := 900000) (disch := omega) only [go_sem, Nat.reduceEqDiff, ↓reduceIte, reduceCtorEq, Nat.reduceAdd, Nat.reduceMul, Int.reduceToNat, List.reduceReplicate, Nat.reduceLeDiff, Nat.reduceLT, Int.reduceLT, Int.reduceLE, Int.reduceEq, z1] <;> rfl) | (with_reducible apply call (c2)); (focus simp (maxSteps := 900000) (disch := omega) only [go_sem, Nat.reduceEqDiff, ↓reduceIte, reduceCtorEq, Nat.reduceAdd, Nat.reduceMul, Int.reduceToNat, List.reduceReplicate, Nat.reduceLeDiff, Nat.reduceLT, Int.reduceLT, Int.reduceLE, Int.reduceEq, z1] <;> rfl) | (with_reducible apply call (c3)); (focus simp (maxSteps := 900000) (disch := omega) only [go_sem, Nat.reduceEqDiff, ↓reduceIte, reduceCtorEq, Nat.reduceAdd, Nat.reduceMul, Int.reduceToNat, List.reduceReplicate, Nat.reduceLeDiff, Nat.reduceLT, Int.reduceLT, Int.reduceLE, Int.reduceEq, z1] <;> rfl) | (with_reducible apply call (c4)); (focus simp (maxSteps := 900000) (disch := omega) only [go_sem, Nat.reduceEqDiff, ↓reduceIte, reduceCtorEq, Nat.reduceAdd, Nat.reduceMul, Int.reduceToNat, List.reduceReplicate, Nat.reduceLeDiff, Nat.reduceLT, Int.reduceLT, Int.reduceLE, Int.reduceEq, z1] <;> rfl) | (with_reducible apply call (c5)); (focus simp (maxSteps := 900000) (disch := omega) only [go_sem, Nat.reduceEqDiff, ↓reduceIte, reduceCtorEq, Nat.reduceAdd, Nat.reduceMul, Int.reduceToNat, List.reduceReplicate, Nat.reduceLeDiff, Nat.reduceLT, Int.reduceLT, Int.reduceLE, Int.reduceEq, z1] <;> rfl) | (with_reducible apply call (c6)); (focus simp (maxSteps := 900000) (disch := omega) only [go_sem, Nat.reduceEqDiff, ↓reduceIte, reduceCtorEq, Nat.reduceAdd, Nat.reduceMul, Int.reduceToNat, List.reduceReplicate, Nat.reduceLeDiff, Nat.reduceLT, Int.reduceLT, Int.reduceLE, Int.reduceEq, z1] <;> rfl) | (with_reducible apply call_D (c7)); (focus simp (maxSteps := 900000) (disch := omega) only [go_sem, Nat.reduceEqDiff, ↓reduceIte, reduceCtorEq, Nat.reduceAdd, Nat.reduceMul, Int.reduceToNat, List.reduceReplicate, Nat.reduceLeDiff, Nat.reduceLT, Int.reduceLT, Int.reduceLE, Int.reduceEq, z1] <;> rfl) | (with_reducible apply call_D (c8)); (focus simp (maxSteps := 900000) (disch := omega) only [go_sem, Nat.reduceEqDiff, ↓reduceIte, reduceCtorEq, Nat.reduceAdd, Nat.reduceMul, Int.reduceToNat, List.reduceReplicate, Nat.reduceLeDiff, Nat.reduceLT, Int.reduceLT, Int.reduceLE, Int.reduceEq, z1] <;> rfl) | (with_reducible apply call_D (c9)); (focus simp (maxSteps := 900000) (disch := omega) only [go_sem, Nat.reduceEqDiff, ↓reduceIte, reduceCtorEq, Nat.reduceAdd, Nat.reduceMul, Int.reduceToNat, List.reduceReplicate, Nat.reduceLeDiff, Nat.reduceLT, Int.reduceLT, Int.reduceLE, Int.reduceEq, z1] <;> rfl) | (with_reducible apply call_D (c10)); (focus simp (maxSteps := 900000) (disch := omega) only [go_sem, Nat.reduceEqDiff, ↓reduceIte, reduceCtorEq, Nat.reduceAdd, Nat.reduceMul, Int.reduceToNat, List.reduceReplicate, Nat.reduceLeDiff, Nat.reduceLT, Int.reduceLT, Int.reduceLE, Int.reduceEq, z1] <;> rfl) | (with_reducible apply call_D (known_ok)); (focus simp (maxSteps := 900000) (disch := omega) only [go_sem, Nat.reduceEqDiff, ↓reduceIte, reduceCtorEq, Nat.reduceAdd, Nat.reduceMul, Int.reduceToNat, List.reduceReplicate, Nat.reduceLeDiff, Nat.reduceLT, Int.reduceLT, Int.reduceLE, Int.reduceEq, z1] <;> rfl) | with_reducible refine pickB_f ?_ | with_reducible refine giv_intro fun _h => ?_ | with_reducible refine alt_intro ?_ fun _h => ?_ | with_reducible refine pickD_nil ?_ | (with_reducible refine brc (fun _h => ?_) fun _h => ?_) <;> first | (exfalso; omega) | simp only [decide_eq_false _h] | simp only [(_h : (_ : Bool) = _)] | simp only [decide_eq_true _h] | skip)
  all_goals skip
end Go.Proofs.Ytfihpbeihlpfcaa.Ev

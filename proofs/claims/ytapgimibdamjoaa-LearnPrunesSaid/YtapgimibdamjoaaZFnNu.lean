/- Four laws: LearnValidates, LearnGains, LearnApplies, LearnRuns. -/
import Derived.Test.YtapgimibdamjoaaZFnNt
set_option linter.unusedVariables false
set_option linter.unusedSimpArgs false
namespace Go.Proofs.Ytapgimibdamjoaa.Ev
open Go Go.Proofs Go.RowKit

/-- ablaut/ablautlaw22.LearnValidates: 2 parameters, 0 captured -/
def s3 : SC := .seq (.reg [o1 4 (.mv (cB false))])
  (.seq (.seq (.reg [o1 5 (.mv (.t 0)),
     o1 6 (.call (.f 10) [(.t 5)]),
     o1 7 (.mv (.t 6)),
     oF 8 (.mv (.t 1)) 7,
     oF 9 (.call (.f 11) [(.t 8)]) 7,
     o1 10 (.pick (.t 7) (cB true) (.t 9))])
    (.cond (.t 10) (.seq (.reg [o1 11 (.call (.f 12) []),
       o1 4 (.mv (.t 11))])
      (.ret)) (.skip)))
   (.seq (.reg [o1 12 (.mv (.t 0)),
     o1 13 (.call (.f 13) [(.t 12)]),
     o1 14 (.mv (.t 0)),
     o1 15 (.call (.f 14) [(.t 14)]),
     o1 16 (.bin .eql (.t 13) (.t 15)),
     o1 17 (.mv (.t 16)),
     oT 18 (.mv (.t 1)) 17,
     oT 19 (.call (.f 15) [(.t 18)]) 17,
     oT 20 (.mv (.t 1)) 17,
     oT 21 (.call (.f 16) [(.t 20)]) 17,
     oT 22 (.bin .eql (.t 19) (.t 21)) 17,
     o1 23 (.pick (.t 17) (.t 22) (cB false)),
     o1 24 (.mv (.t 23)),
     oT 25 (.call (.f 12) []) 24,
     o1 26 (.pick (.t 24) (.t 25) (cB false)),
     o1 4 (.mv (.t 26))])
    (.ret)))
/-- ablaut/ablautlaw22.same: 2 parameters, 0 captured -/
def s26 : SC := .seq (.reg [o1 4 (.mv (cB false))])
  (.seq (.seq (.reg [o1 6 (.mv (.t 0)),
     o1 7 (.lenL (.t 6)),
     o1 8 (.mv (.t 1)),
     o1 9 (.lenL (.t 8)),
     o1 10 (.bin .neq (.t 7) (.t 9))])
    (.cond (.t 10) (.seq (.reg [o1 4 (.mv (cB false))])
      (.ret)) (.skip)))
   (.seq (.seq (.reg [o1 5 (.mv (cI 0))])
     (.block 0 (.loop (.seq (.seq (.reg [o1 11 (.mv (.t 5)),
          o1 12 (.mv (.t 0)),
          o1 13 (.lenL (.t 12)),
          o1 14 (.bin .lss (.t 11) (.t 13))])
         (.cond (.t 14) (.skip) (.exit 0)))
        (.seq (.block 1 (.seq (.regD [o1 17 (.mv (.t 0)),
            o1 18 (.mv (.t 5)),
            o1 19 (.iaddr 4 (.t 17) (.t 18)),
            o1 20 (.load (some 4) (.t 19)),
            o1 21 (.mv (.t 1)),
            o1 22 (.mv (.t 5)),
            o1 23 (.iaddr 4 (.t 21) (.t 22)),
            o1 24 (.load (some 4) (.t 23)),
            o1 25 (.eqS true [(.str, 0), (.str, 1), ((.int .i64), 2), (.str, 3)] (.t 20) (.t 24))])
           (.cond (.t 25) (.seq (.reg [o1 4 (.mv (cB false))])
             (.ret)) (.skip))))
         (.reg [o1 15 (.mv (.t 5)),
          o1 16 (.bin .add (.t 15) (cI 1)),
          o1 5 (.mv (.t 16))]))))))
    (.seq (.reg [o1 4 (.mv (cB true))])
     (.ret))))
theorem s26_ok : lookF Try.prog 26 = some (s26, 26, [.tmp 4]) := by kernel_rfl
theorem same_ok (l : List Change) : Fn P 26 [sl l, sl l] (boolA true) := by
  (refine fn_look s26_ok (by simp) (by intro k; simp only [go_sem, Nat.reduceEqDiff, ↓reduceIte, reduceCtorEq, Nat.reduceAdd, Nat.reduceMul, Int.reduceToNat, List.reduceReplicate, Nat.reduceLeDiff, Nat.reduceLT, Int.reduceLT, Int.reduceLE, Int.reduceEq]) fun S hS => cwp_sound _ _ _ _ ?_; simp (maxSteps := 900000) (disch := omega) only [s26, go_sem, Nat.reduceEqDiff, ↓reduceIte, reduceCtorEq, Nat.reduceAdd, Nat.reduceMul, Int.reduceToNat, List.reduceReplicate, Nat.reduceLeDiff, Nat.reduceLT, Int.reduceLT, Int.reduceLE, Int.reduceEq])
  repeat' (first | with_reducible refine inw ?_ | simp (maxSteps := 900000) (disch := omega) only [go_sem, Nat.reduceEqDiff, ↓reduceIte, reduceCtorEq, Nat.reduceAdd, Nat.reduceMul, Int.reduceToNat, List.reduceReplicate, Nat.reduceLeDiff, Nat.reduceLT, Int.reduceLT, Int.reduceLE, Int.reduceEq] | with_reducible refine giv_intro fun _h => ?_ | with_reducible refine alt_intro ?_ fun _h => ?_ | with_reducible refine pickD_nil ?_ | (with_reducible refine brc (fun _h => ?_) fun _h => ?_) <;> first | (exfalso; omega) | simp only [decide_eq_false _h] | simp only [(_h : (_ : Bool) = _)] | simp only [decide_eq_true _h] | skip)
  (refine loopC hS [0, 1] (by simp only [go_sem, Nat.reduceEqDiff, ↓reduceIte, reduceCtorEq, Nat.reduceAdd, Nat.reduceMul, Int.reduceToNat, List.reduceReplicate, Nat.reduceLeDiff, Nat.reduceLT, Int.reduceLT, Int.reduceLE, Int.reduceEq]; try rfl) (fun (i : Nat) => [(5, intA i)]) (fun (i : Nat) => []) (fun (i : Nat) => i ≤ l.length) (fun (i : Nat) => l.length - i) (0) ?h02 ?hn2 ?rd2; case hn2 => (intro s; first | rfl | (rcases s with ⟨_, _⟩; rfl) | (rcases s with ⟨_, _, _⟩; rfl) | (rcases s with ⟨_, _, _, _⟩; rfl) | (rcases s with ⟨_, _, _, _, _⟩; rfl)))
  · simp (maxSteps := 900000) (disch := omega) only [go_sem, Nat.reduceEqDiff, ↓reduceIte, reduceCtorEq, Nat.reduceAdd, Nat.reduceMul, Int.reduceToNat, List.reduceReplicate, Nat.reduceLeDiff, Nat.reduceLT, Int.reduceLT, Int.reduceLE, Int.reduceEq]; simp
  rintro i hi
  replace hi : i ≤ l.length := hi
  by_cases hil : i < l.length
  · repeat' (first | with_reducible refine inw ?_ | simp (maxSteps := 900000) (disch := omega) only [go_sem, Nat.reduceEqDiff, ↓reduceIte, reduceCtorEq, Nat.reduceAdd, Nat.reduceMul, Int.reduceToNat, List.reduceReplicate, Nat.reduceLeDiff, Nat.reduceLT, Int.reduceLT, Int.reduceLE, Int.reduceEq] | with_reducible refine giv_intro fun _h => ?_ | with_reducible refine alt_intro ?_ fun _h => ?_ | with_reducible refine pickD_nil ?_ | (with_reducible refine brc (fun _h => ?_) fun _h => ?_) <;> first | (exfalso; omega) | simp only [decide_eq_false _h] | simp only [(_h : (_ : Bool) = _)] | simp only [decide_eq_true _h] | skip)
    exact ⟨i + 1, ⟨by omega, by omega⟩, by omega⟩
  · have : i = l.length := by omega
    subst this
    repeat' (first | with_reducible refine inw ?_ | simp (maxSteps := 900000) (disch := omega) only [go_sem, Nat.reduceEqDiff, ↓reduceIte, reduceCtorEq, Nat.reduceAdd, Nat.reduceMul, Int.reduceToNat, List.reduceReplicate, Nat.reduceLeDiff, Nat.reduceLT, Int.reduceLT, Int.reduceLE, Int.reduceEq] | with_reducible refine giv_intro fun _h => ?_ | with_reducible refine alt_intro ?_ fun _h => ?_ | with_reducible refine pickD_nil ?_ | (with_reducible refine brc (fun _h => ?_) fun _h => ?_) <;> first | (exfalso; omega) | simp only [decide_eq_false _h] | simp only [(_h : (_ : Bool) = _)] | simp only [decide_eq_true _h] | skip)
/-- ablaut/ablautlaw22.LearnApplies: 3 parameters, 0 captured -/
def s5 : SC := .seq (.reg [o1 3 (.box 39 5 (.t 0)),
   o1 6 (.mv (cB false))])
  (.seq (.seq (.reg [o1 11 (.faddr 0 (.t 3)),
     o1 12 (.load (some 4) (.t 11)),
     o1 13 (.buildSl 32 4 1 [(.string ⟨#[]⟩), (.string ⟨#[]⟩), (.int .i64 0), (.string ⟨#[]⟩)] [(0, 4, (.t 12))]),
     o1 14 (.call (.f 10) [(.t 13)]),
     o1 15 (.mv (.t 14)),
     oF 16 (.mv (.t 1)) 15,
     oF 17 (.mv (.t 2)) 15,
     oF 18 (.buildSl 40 1 2 [(.slice none 0 0)] [(0, 1, (.t 16)), (1, 1, (.t 17))]) 15,
     oF 19 (.call (.f 21) [(.t 18)]) 15,
     o1 20 (.pick (.t 15) (cB true) (.t 19))])
    (.cond (.t 20) (.seq (.reg [o1 21 (.call (.f 12) []),
       o1 6 (.mv (.t 21))])
      (.ret)) (.skip)))
   (.seq (.reg [o1 23 (.faddr 0 (.t 3)),
     o1 24 (.load (some 4) (.t 23)),
     o1 25 (.mv (.t 1)),
     o1 26 (.mv (.t 2)),
     o1 27 (.faddr 4 (.t 3)),
     o1 28 (.load none (.t 27)),
     o1 29 (.call (.f 22) [(.t 24), (.t 25), (.t 26), (.t 28)]),
     o1 22 (.mv (.t 29)),
     o1 30 (.ext (.t 22) 0),
     o1 31 (.ext (.t 22) 1),
     o1 7 (.mv (.t 30)),
     o1 8 (.mv (.t 31))])
    (.seq (.reg [o1 33 (.faddr 0 (.t 3)),
      o1 34 (.load (some 4) (.t 33)),
      o1 35 (.mv (.t 1)),
      o1 36 (.mv (.t 2)),
      o1 37 (.faddr 4 (.t 3)),
      o1 38 (.load none (.t 37)),
      o1 39 (.call (.f 23) [(.t 34), (.t 35), (.t 36), (.t 38)]),
      o1 32 (.mv (.t 39)),
      o1 40 (.ext (.t 32) 0),
      o1 41 (.ext (.t 32) 1),
      o1 9 (.mv (.t 40)),
      o1 10 (.mv (.t 41))])
     (.seq (.reg [o1 42 (.mv (.t 7)),
       o1 43 (.mv (.t 9)),
       o1 44 (.eq false .bool (.t 42) (.t 43)),
       o1 45 (.mv (.t 44)),
       oT 46 (.mv (.t 8)) 45,
       oT 47 (.mv (.t 10)) 45,
       oT 48 (.bin .eql (.t 46) (.t 47)) 45,
       o1 49 (.pick (.t 45) (.t 48) (cB false)),
       o1 50 (.mv (.t 49)),
       oT 51 (.call (.f 12) []) 50,
       o1 52 (.pick (.t 50) (.t 51) (cB false)),
       o1 6 (.mv (.t 52))])
      (.ret)))))
theorem s5_ok : lookF Try.prog 5 = some (s5, 53, [.tmp 6]) := by kernel_rfl
theorem LearnApplies_ok (c : Change) (i : Int) (w t : List Str) (hc : SmC c) (hw : ∀ s ∈ w, s.size ≤ 4611686018427387904) (ht : ∀ s ∈ t, s.size ≤ 4611686018427387904) : Fn P 5 [.agg [strA c.1, strA c.2.1, intA c.2.2.1, strA c.2.2.2, intA i], sl w, sl t] (boolA true) := by
  have c0 := overC_ok [c]
  have c1 := IsLong_ok [w, t] (by simp; exact ⟨hw, ht⟩)
  have c2 := Applies_ok c w t i hc ⟨hw, ht, ht⟩
  have c3 := rApplies2_ok c w t i hc ⟨hw, ht, ht⟩
  (refine fn_look s5_ok (by simp) (by intro k; simp only [go_sem, Nat.reduceEqDiff, ↓reduceIte, reduceCtorEq, Nat.reduceAdd, Nat.reduceMul, Int.reduceToNat, List.reduceReplicate, Nat.reduceLeDiff, Nat.reduceLT, Int.reduceLT, Int.reduceLE, Int.reduceEq]) fun S hS => cwp_sound _ _ _ _ ?_; simp (maxSteps := 900000) (disch := omega) only [s5, go_sem, Nat.reduceEqDiff, ↓reduceIte, reduceCtorEq, Nat.reduceAdd, Nat.reduceMul, Int.reduceToNat, List.reduceReplicate, Nat.reduceLeDiff, Nat.reduceLT, Int.reduceLT, Int.reduceLE, Int.reduceEq])
  repeat' (first | with_reducible refine inw ?_ | simp (maxSteps := 900000) (disch := omega) only [go_sem, Nat.reduceEqDiff, ↓reduceIte, reduceCtorEq, Nat.reduceAdd, Nat.reduceMul, Int.reduceToNat, List.reduceReplicate, Nat.reduceLeDiff, Nat.reduceLT, Int.reduceLT, Int.reduceLE, Int.reduceEq, z4_ch] | (with_reducible apply callR_lend (c0)); (focus simp (maxSteps := 900000) (disch := omega) only [go_sem, Nat.reduceEqDiff, ↓reduceIte, reduceCtorEq, Nat.reduceAdd, Nat.reduceMul, Int.reduceToNat, List.reduceReplicate, Nat.reduceLeDiff, Nat.reduceLT, Int.reduceLT, Int.reduceLE, Int.reduceEq, z4_ch] <;> rfl); (focus (rintro _ ⟨_, rfl⟩; rfl)); rintro _ ⟨_, rfl⟩ | (with_reducible apply call_lend (c1)); (focus simp (maxSteps := 900000) (disch := omega) only [go_sem, Nat.reduceEqDiff, ↓reduceIte, reduceCtorEq, Nat.reduceAdd, Nat.reduceMul, Int.reduceToNat, List.reduceReplicate, Nat.reduceLeDiff, Nat.reduceLT, Int.reduceLT, Int.reduceLE, Int.reduceEq, z4_ch] <;> rfl); (focus rfl) | (with_reducible apply call (known_ok)); (focus simp (maxSteps := 900000) (disch := omega) only [go_sem, Nat.reduceEqDiff, ↓reduceIte, reduceCtorEq, Nat.reduceAdd, Nat.reduceMul, Int.reduceToNat, List.reduceReplicate, Nat.reduceLeDiff, Nat.reduceLT, Int.reduceLT, Int.reduceLE, Int.reduceEq, z4_ch] <;> rfl) | (with_reducible apply call (c2)); (focus simp (maxSteps := 900000) (disch := omega) only [go_sem, Nat.reduceEqDiff, ↓reduceIte, reduceCtorEq, Nat.reduceAdd, Nat.reduceMul, Int.reduceToNat, List.reduceReplicate, Nat.reduceLeDiff, Nat.reduceLT, Int.reduceLT, Int.reduceLE, Int.reduceEq, z4_ch] <;> rfl) | (with_reducible apply call (c3)); (focus simp (maxSteps := 900000) (disch := omega) only [go_sem, Nat.reduceEqDiff, ↓reduceIte, reduceCtorEq, Nat.reduceAdd, Nat.reduceMul, Int.reduceToNat, List.reduceReplicate, Nat.reduceLeDiff, Nat.reduceLT, Int.reduceLT, Int.reduceLE, Int.reduceEq, z4_ch] <;> rfl) | with_reducible refine giv_intro fun _h => ?_ | with_reducible refine alt_intro ?_ fun _h => ?_ | with_reducible refine pickD_nil ?_ | (with_reducible refine brc (fun _h => ?_) fun _h => ?_) <;> first | (exfalso; omega) | simp only [decide_eq_false _h] | simp only [(_h : (_ : Bool) = _)] | simp only [decide_eq_true _h] | skip)
/-- ablaut/ablautlaw22.LearnGains: 2 parameters, 0 captured -/
def s4 : SC := .seq (.reg [o1 2 (.box 32 4 (.t 0)),
   o1 4 (.mv (cB false))])
  (.seq (.seq (.reg [o1 15 (.load (some 4) (.t 2)),
     o1 16 (.buildSl 32 4 1 [(.string ⟨#[]⟩), (.string ⟨#[]⟩), (.int .i64 0), (.string ⟨#[]⟩)] [(0, 4, (.t 15))]),
     o1 17 (.call (.f 10) [(.t 16)]),
     o1 18 (.mv (.t 17)),
     oF 19 (.mv (.t 1)) 18,
     oF 20 (.call (.f 11) [(.t 19)]) 18,
     o1 21 (.pick (.t 18) (cB true) (.t 20))])
    (.cond (.t 21) (.seq (.reg [o1 22 (.call (.f 12) []),
       o1 4 (.mv (.t 22))])
      (.ret)) (.skip)))
   (.seq (.reg [o1 24 (.load (some 4) (.t 2)),
     o1 25 (.mv (.t 1)),
     o1 26 (.call (.f 17) [(.t 24), (.t 25)]),
     o1 23 (.mv (.t 26)),
     o1 27 (.ext (.t 23) 0),
     o1 28 (.ext (.t 23) 1),
     o1 5 (.mv (.t 27)),
     o1 6 (.mv (.t 28))])
    (.seq (.reg [o1 30 (.load (some 4) (.t 2)),
      o1 31 (.mv (.t 1)),
      o1 32 (.call (.f 18) [(.t 30), (.t 31)]),
      o1 29 (.mv (.t 32)),
      o1 33 (.ext (.t 29) 0),
      o1 34 (.ext (.t 29) 1),
      o1 7 (.mv (.t 33)),
      o1 8 (.mv (.t 34))])
     (.seq (.reg [o1 36 (.mv (.t 1)),
       o1 37 (.call (.f 19) [(.t 36)]),
       o1 35 (.mv (.t 37)),
       o1 38 (.ext (.t 35) 0),
       o1 39 (.ext (.t 35) 1),
       o1 40 (.ext (.t 35) 2),
       o1 9 (.alloc 32 4 [(.string ⟨#[]⟩), (.string ⟨#[]⟩), (.int .i64 0), (.string ⟨#[]⟩)]),
       o0 (.store 4 (.t 9) (.t 38)),
       o1 10 (.mv (.t 39)),
       o1 11 (.mv (.t 40))])
      (.seq (.reg [o1 42 (.mv (.t 1)),
        o1 43 (.call (.f 20) [(.t 42)]),
        o1 41 (.mv (.t 43)),
        o1 44 (.ext (.t 41) 0),
        o1 45 (.ext (.t 41) 1),
        o1 46 (.ext (.t 41) 2),
        o1 12 (.alloc 32 4 [(.string ⟨#[]⟩), (.string ⟨#[]⟩), (.int .i64 0), (.string ⟨#[]⟩)]),
        o0 (.store 4 (.t 12) (.t 44)),
        o1 13 (.mv (.t 45)),
        o1 14 (.mv (.t 46))])
       (.seq (.reg [o1 47 (.mv (.t 5)),
         o1 48 (.mv (.t 7)),
         o1 49 (.bin .eql (.t 47) (.t 48)),
         o1 50 (.mv (.t 49)),
         oT 51 (.mv (.t 6)) 50,
         oT 52 (.mv (.t 8)) 50,
         oT 53 (.bin .eql (.t 51) (.t 52)) 50,
         o1 54 (.pick (.t 50) (.t 53) (cB false)),
         o1 55 (.mv (.t 54)),
         oT 56 (.load (some 4) (.t 9)) 55,
         oT 57 (.load (some 4) (.t 12)) 55,
         oT 58 (.eqS false [(.str, 0), (.str, 1), ((.int .i64), 2), (.str, 3)] (.t 56) (.t 57)) 55,
         o1 59 (.pick (.t 55) (.t 58) (cB false)),
         o1 60 (.mv (.t 59)),
         oT 61 (.mv (.t 10)) 60,
         oT 62 (.mv (.t 13)) 60,
         oT 63 (.bin .eql (.t 61) (.t 62)) 60,
         o1 64 (.pick (.t 60) (.t 63) (cB false)),
         o1 65 (.mv (.t 64)),
         oT 66 (.mv (.t 11)) 65,
         oT 67 (.mv (.t 14)) 65,
         oT 68 (.bin .eql (.t 66) (.t 67)) 65,
         o1 69 (.pick (.t 65) (.t 68) (cB false)),
         o1 70 (.mv (.t 69)),
         oT 71 (.call (.f 12) []) 70,
         o1 72 (.pick (.t 70) (.t 71) (cB false)),
         o1 4 (.mv (.t 72))])
        (.ret)))))))
theorem s4_ok : lookF Try.prog 4 = some (s4, 73, [.tmp 4]) := by kernel_rfl
theorem LearnGains_ok (c : Change) (ls : List Lesson) (hc : SmC c) (hs : SmLs ls) : Fn P 4 [chA c, sl ls] (boolA true) := by
  have c0 := overC_ok [c]
  (refine fn_look s4_ok (by simp) (by intro k; simp only [go_sem, Nat.reduceEqDiff, ↓reduceIte, reduceCtorEq, Nat.reduceAdd, Nat.reduceMul, Int.reduceToNat, List.reduceReplicate, Nat.reduceLeDiff, Nat.reduceLT, Int.reduceLT, Int.reduceLE, Int.reduceEq]) fun S hS => cwp_sound _ _ _ _ ?_; simp (maxSteps := 900000) (disch := omega) only [s4, go_sem, Nat.reduceEqDiff, ↓reduceIte, reduceCtorEq, Nat.reduceAdd, Nat.reduceMul, Int.reduceToNat, List.reduceReplicate, Nat.reduceLeDiff, Nat.reduceLT, Int.reduceLT, Int.reduceLE, Int.reduceEq])
  repeat' (first | with_reducible refine inw ?_ | simp (maxSteps := 900000) (disch := omega) only [go_sem, Nat.reduceEqDiff, ↓reduceIte, reduceCtorEq, Nat.reduceAdd, Nat.reduceMul, Int.reduceToNat, List.reduceReplicate, Nat.reduceLeDiff, Nat.reduceLT, Int.reduceLT, Int.reduceLE, Int.reduceEq, z4_ch] | (with_reducible apply callR_lend (c0)); (focus simp (maxSteps := 900000) (disch := omega) only [go_sem, Nat.reduceEqDiff, ↓reduceIte, reduceCtorEq, Nat.reduceAdd, Nat.reduceMul, Int.reduceToNat, List.reduceReplicate, Nat.reduceLeDiff, Nat.reduceLT, Int.reduceLT, Int.reduceLE, Int.reduceEq, z4_ch] <;> rfl); (focus (rintro _ ⟨_, rfl⟩; rfl)); rintro _ ⟨_, rfl⟩ | (with_reducible apply callR (over_ok ls hs)); (focus simp (maxSteps := 900000) (disch := omega) only [go_sem, Nat.reduceEqDiff, ↓reduceIte, reduceCtorEq, Nat.reduceAdd, Nat.reduceMul, Int.reduceToNat, List.reduceReplicate, Nat.reduceLeDiff, Nat.reduceLT, Int.reduceLT, Int.reduceLE, Int.reduceEq, z4_ch] <;> rfl); rintro _ ⟨_, rfl⟩ | (with_reducible apply call (known_ok)); (focus simp (maxSteps := 900000) (disch := omega) only [go_sem, Nat.reduceEqDiff, ↓reduceIte, reduceCtorEq, Nat.reduceAdd, Nat.reduceMul, Int.reduceToNat, List.reduceReplicate, Nat.reduceLeDiff, Nat.reduceLT, Int.reduceLT, Int.reduceLE, Int.reduceEq, z4_ch] <;> rfl) | (with_reducible apply call (Gain_ok c ls hc hs)); (focus simp (maxSteps := 900000) (disch := omega) only [go_sem, Nat.reduceEqDiff, ↓reduceIte, reduceCtorEq, Nat.reduceAdd, Nat.reduceMul, Int.reduceToNat, List.reduceReplicate, Nat.reduceLeDiff, Nat.reduceLT, Int.reduceLT, Int.reduceLE, Int.reduceEq, z4_ch] <;> rfl) | (with_reducible apply call (rGain_ok c ls hc hs)); (focus simp (maxSteps := 900000) (disch := omega) only [go_sem, Nat.reduceEqDiff, ↓reduceIte, reduceCtorEq, Nat.reduceAdd, Nat.reduceMul, Int.reduceToNat, List.reduceReplicate, Nat.reduceLeDiff, Nat.reduceLT, Int.reduceLT, Int.reduceLE, Int.reduceEq, z4_ch] <;> rfl) | (with_reducible apply call (Best_ok ls hs)); (focus simp (maxSteps := 900000) (disch := omega) only [go_sem, Nat.reduceEqDiff, ↓reduceIte, reduceCtorEq, Nat.reduceAdd, Nat.reduceMul, Int.reduceToNat, List.reduceReplicate, Nat.reduceLeDiff, Nat.reduceLT, Int.reduceLT, Int.reduceLE, Int.reduceEq, z4_ch] <;> rfl) | (with_reducible apply call (rBest_ok ls hs)); (focus simp (maxSteps := 900000) (disch := omega) only [go_sem, Nat.reduceEqDiff, ↓reduceIte, reduceCtorEq, Nat.reduceAdd, Nat.reduceMul, Int.reduceToNat, List.reduceReplicate, Nat.reduceLeDiff, Nat.reduceLT, Int.reduceLT, Int.reduceLE, Int.reduceEq, z4_ch] <;> rfl) | with_reducible refine giv_intro fun _h => ?_ | with_reducible refine alt_intro ?_ fun _h => ?_ | with_reducible refine pickD_nil ?_ | (with_reducible refine brc (fun _h => ?_) fun _h => ?_) <;> first | (exfalso; omega) | simp only [decide_eq_false _h] | simp only [(_h : (_ : Bool) = _)] | simp only [decide_eq_true _h] | skip)

/-! ### what comes in is small -/
theorem smC1_of {a : Change} (h : a.1.size ≤ 140737488351232 ∧ a.2.1.size ≤ 140737488351232 ∧ (-9223372036854775808 ≤ a.2.2.1 ∧ a.2.2.1 ≤ 9223372036854775807) ∧ a.2.2.2.size ≤ 140737488351232) : SmC a := ⟨by omega, by omega, by omega⟩
theorem smC_of {l : List Change} {n : Nat} (h : l.length * n ≤ 140737488351232 ∧ ∀ a ∈ l, a.1.size ≤ 140737488351232 ∧ a.2.1.size ≤ 140737488351232 ∧ (-9223372036854775808 ≤ a.2.2.1 ∧ a.2.2.1 ≤ 9223372036854775807) ∧ a.2.2.2.size ≤ 140737488351232) : ∀ c ∈ l, SmC c := fun c hc => smC1_of (h.2 c hc)
theorem smT_of {l : List Str} {n : Nat} (h : l.length * n ≤ 140737488351232 ∧ ∀ s ∈ l, s.size ≤ 140737488351232) : ∀ s ∈ l, s.size ≤ 4611686018427387904 := fun s hs => by have := h.2 s hs; omega
theorem smL_of {l : List Lesson} {m n1 n2 n3 : Nat} (h : l.length * m ≤ 140737488351232 ∧ ∀ a ∈ l, (a.1.length * n1 ≤ 140737488351232 ∧ ∀ s ∈ a.1, s.size ≤ 140737488351232) ∧ (a.2.1.length * n2 ≤ 140737488351232 ∧ ∀ s ∈ a.2.1, s.size ≤ 140737488351232) ∧ (a.2.2.length * n3 ≤ 140737488351232 ∧ ∀ s ∈ a.2.2, s.size ≤ 140737488351232)) : SmLs l := fun x hx =>
  ⟨smT_of (h.2 x hx).1, smT_of (h.2 x hx).2.1, smT_of (h.2 x hx).2.2⟩
end Go.Proofs.Ytapgimibdamjoaa.Ev

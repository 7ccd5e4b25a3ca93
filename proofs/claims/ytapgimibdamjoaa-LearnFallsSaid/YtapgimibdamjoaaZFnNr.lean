/- What is offered: the program's table. -/
import Derived.Test.YtapgimibdamjoaaZFnNq
set_option linter.unusedVariables false
set_option linter.unusedSimpArgs false
namespace Go.Proofs.Ytapgimibdamjoaa.Ev
open Go Go.Proofs Go.RowKit

abbrev SmV (ls : List Lesson) : Prop := ∀ x ∈ ls, (∀ s ∈ x.1, s.size ≤ 4611686018427387904) ∧ (∀ s ∈ x.2.1, s.size ≤ 4611686018427387904) ∧ ∀ s ∈ x.2.2, s.size ≤ 4611686018427387904
theorem atS_size {l : List Str} {n : Nat} (h : ∀ s ∈ l, s.size ≤ n) (i : Int) : (atS l i).size ≤ n := by
  rw [atS]
  split
  · exact h _ (nth_mem (by omega))
  · exact Nat.zero_le _
theorem kAt_step {x : Lesson} {k a b : Nat} (h : b < (farD a).length) : (kAt x k a).take (b + 1) = (kAt x k a).take b ++ [(nth x.2.1 k, nth x.2.2 k, (a : Int), atS (if 5 < a then x.1 else x.2.1) ((k : Int) + nth (farD a) b))] := by
  rw [List.take_add_one, kAt, List.getElem?_map, nth_get? h]; rfl
theorem addL_step (m : List (Change × Bool)) (ks : List Change) (c : Change) : addL m (ks ++ [c]) = if argB c = true then putM (addL m ks) c true else addL m ks := addL_snoc m ks c
def far6 : List (List Int) := [[-1], [1], [-2], [2], [-1, -2], [1, 2]]
/-- ablaut/learn.offered$1: 2 parameters, 4 captured -/
def s76 : SC := .seq (.regG [(true, o1 9 (.load none (.t 2))),
   (true, o1 10 (.faddr 2 (.t 3))),
   (true, o1 11 (.load none (.t 10))),
   (true, o1 12 (.load none (.t 4))),
   (true, o1 13 (.iaddr 1 (.t 11) (.t 12))),
   (true, o1 14 (.load none (.t 13))),
   (true, o1 15 (.mv (.t 0))),
   (true, o1 16 (.mv (.t 1))),
   (true, o1 17 (.build [(.string ⟨#[]⟩), (.string ⟨#[]⟩), (.int .i64 0), (.string ⟨#[]⟩)] [(0, 1, (.t 9)), (1, 1, (.t 14)), (2, 1, (.t 15)), (3, 1, (.t 16))])),
   (true, o1 8 (.alloc 32 4 [(.string ⟨#[]⟩), (.string ⟨#[]⟩), (.int .i64 0), (.string ⟨#[]⟩)])),
   (false, o0 (.store 4 (.t 8) (.t 17)))])
  (.seq (.reg [o1 18 (.load (some 4) (.t 8)),
    o1 19 (.call (.f 38) [(.t 18)])])
   (.cond (.t 19) (.reg [o1 20 (.load none (.t 5)),
     o1 21 (.load (some 4) (.t 8)),
     o0 (.mupd (.flds [.str, .str, .int .i64, .str]) (.t 20) (.t 21) (cB true))]) (.skip)))
theorem s76_ok : lookF Try.prog 76 = some (s76, 22, []) := by kernel_rfl
/-- ablaut/learn.offered: 1 parameters, 0 captured -/
def s66 : SC := .seq (.reg [o1 2 (.mv (.c (.map none)))])
  (.seq (.reg [o1 17 (.mkmap),
    o1 3 (.mv (.t 17))])
   (.seq (.seq (.reg [o1 18 (.mv (.t 0)),
      o1 19 (.lenL (.t 18)),
      o1 20 (.mv (cI 0))])
     (.block 0 (.loop (.seq (.reg [o1 21 (.bin .lss (.t 20) (.t 19))])
        (.seq (.cond (.t 21) (.skip) (.exit 0))
         (.seq (.block 1 (.seq (.reg [o1 22 (.iaddr 3 (.t 18) (.t 20)),
             o1 23 (.load (some 3) (.t 22)),
             o1 5 (.alloc 56 3 [(.slice none 0 0), (.slice none 0 0), (.slice none 0 0)]),
             o0 (.store 3 (.t 5) (.t 23))])
            (.seq (.reg [o1 24 (.faddr 1 (.t 5)),
              o1 25 (.load none (.t 24)),
              o1 26 (.lenL (.t 25)),
              o1 27 (.mv (cI 0))])
             (.block 2 (.loop (.seq (.reg [o1 28 (.bin .lss (.t 27) (.t 26))])
                (.seq (.cond (.t 28) (.skip) (.exit 2))
                 (.seq (.block 3 (.seq (.reg [o1 29 (.mv (.t 27)),
                     o1 30 (.iaddr 1 (.t 25) (.t 27)),
                     o1 31 (.load none (.t 30)),
                     o1 6 (.alloc 3 1 [(.int .i64 0)]),
                     o1 7 (.alloc 9 1 [(.string ⟨#[]⟩)]),
                     o0 (.store 1 (.t 6) (.t 29)),
                     o0 (.store 1 (.t 7) (.t 31))])
                    (.seq (.seq (.regD [o1 32 (.load none (.t 7)),
                       o1 33 (.faddr 2 (.t 5)),
                       o1 34 (.load none (.t 33)),
                       o1 35 (.load none (.t 6)),
                       o1 36 (.iaddr 1 (.t 34) (.t 35)),
                       o1 37 (.load none (.t 36)),
                       o1 38 (.bin .eql (.t 32) (.t 37))])
                      (.cond (.t 38) (.exit 3) (.skip)))
                     (.seq (.regH [(94, 1)] [(true, none, o1 40 (.load none (.t 7))),
                       (true, none, o1 41 (.faddr 2 (.t 5))),
                       (true, none, o1 42 (.load none (.t 41))),
                       (true, none, o1 43 (.load none (.t 6))),
                       (true, none, o1 44 (.iaddr 1 (.t 42) (.t 43))),
                       (true, none, o1 45 (.load none (.t 44))),
                       (true, none, o1 46 (.build [(.string ⟨#[]⟩), (.string ⟨#[]⟩), (.int .i64 0), (.string ⟨#[]⟩)] [(0, 1, (.t 40)), (1, 1, (.t 45)), (2, 1, (cI 9))])),
                       (true, none, o1 39 (.mkmap)),
                       (false, none, o0 (.mupd (.flds [.str, .str, .int .i64, .str]) (.t 39) (.t 46) (cB true))),
                       (false, none, o1 47 (.mv (.t 39))),
                       (true, (some 0), o1 8 (.alloc 94 1 [(.map none)])),
                       (false, none, o0 (.store 1 (.t 8) (.t 47)))])
                      (.seq (.reg [o1 48 (.mkfunc 76 [(.t 7), (.t 5), (.t 6), (.t 8)]),
                        o1 9 (.mv (.t 48))])
                       (.seq (.seq (.reg [o1 49 (.buildSl 3 1 1 [(.int .i64 0)] [(0, 1, (cI (-1)))]),
                          o1 50 (.buildSl 3 1 1 [(.int .i64 0)] [(0, 1, (cI 1))]),
                          o1 51 (.buildSl 3 1 1 [(.int .i64 0)] [(0, 1, (cI (-2)))]),
                          o1 52 (.buildSl 3 1 1 [(.int .i64 0)] [(0, 1, (cI 2))]),
                          o1 53 (.buildSl 3 1 2 [(.int .i64 0)] [(0, 1, (cI (-1))), (1, 1, (cI (-2)))]),
                          o1 54 (.buildSl 3 1 2 [(.int .i64 0)] [(0, 1, (cI 1)), (1, 1, (cI 2))]),
                          o1 55 (.buildSl 87 1 6 [(.slice none 0 0)] [(0, 1, (.t 49)), (1, 1, (.t 50)), (2, 1, (.t 51)), (3, 1, (.t 52)), (4, 1, (.t 53)), (5, 1, (.t 54))]),
                          o1 56 (.lenL (.t 55)),
                          o1 57 (.mv (cI 0))])
                         (.block 4 (.loop (.seq (.reg [o1 58 (.bin .lss (.t 57) (.t 56))])
                            (.seq (.cond (.t 58) (.skip) (.exit 4))
                             (.seq (.block 5 (.seq (.reg [o1 59 (.mv (.t 57)),
                                 o1 60 (.iaddr 1 (.t 55) (.t 57)),
                                 o1 61 (.load none (.t 60)),
                                 o1 10 (.mv (.t 59)),
                                 o1 11 (.mv (.t 61))])
                                (.seq (.reg [o1 62 (.mv (.t 11)),
                                  o1 63 (.lenL (.t 62)),
                                  o1 64 (.mv (cI 0))])
                                 (.block 6 (.loop (.seq (.reg [o1 65 (.bin .lss (.t 64) (.t 63))])
                                    (.seq (.cond (.t 65) (.skip) (.exit 6))
                                     (.seq (.block 7 (.seq (.reg [o1 66 (.iaddr 1 (.t 62) (.t 64)),
                                         o1 67 (.load none (.t 66)),
                                         o1 13 (.mv (.t 67))])
                                        (.reg [o1 68 (.mv (.t 9)),
                                         o1 69 (.mv (.t 10)),
                                         o1 70 (.faddr 1 (.t 5)),
                                         o1 71 (.load none (.t 70)),
                                         o1 72 (.load none (.t 6)),
                                         o1 73 (.mv (.t 13)),
                                         o1 74 (.bin .add (.t 72) (.t 73)),
                                         o1 75 (.call (.f 72) [(.t 71), (.t 74)]),
                                         o1 76 (.call (.t 68) [(.t 69), (.t 75)])])))
                                      (.reg [o1 77 (.bin .add (.t 64) (cI 1)),
                                       o1 64 (.mv (.t 77))])))))))))
                              (.reg [o1 78 (.bin .add (.t 57) (cI 1)),
                               o1 57 (.mv (.t 78))])))))))
                        (.seq (.seq (.reg [o1 79 (.buildSl 3 1 3 [(.int .i64 0)] [(0, 1, (cI 0)), (1, 1, (cI (-1))), (2, 1, (cI 1))]),
                           o1 80 (.lenL (.t 79)),
                           o1 81 (.mv (cI 0))])
                          (.block 8 (.loop (.seq (.reg [o1 82 (.bin .lss (.t 81) (.t 80))])
                             (.seq (.cond (.t 82) (.skip) (.exit 8))
                              (.seq (.block 9 (.seq (.reg [o1 83 (.mv (.t 81)),
                                  o1 84 (.iaddr 1 (.t 79) (.t 81)),
                                  o1 85 (.load none (.t 84)),
                                  o1 14 (.mv (.t 83)),
                                  o1 15 (.mv (.t 85))])
                                 (.reg [o1 86 (.mv (.t 9)),
                                  o1 87 (.mv (.t 14)),
                                  o1 88 (.bin .add (cI 6) (.t 87)),
                                  o1 89 (.faddr 0 (.t 5)),
                                  o1 90 (.load none (.t 89)),
                                  o1 91 (.load none (.t 6)),
                                  o1 92 (.mv (.t 15)),
                                  o1 93 (.bin .add (.t 91) (.t 92)),
                                  o1 94 (.call (.f 72) [(.t 90), (.t 93)]),
                                  o1 95 (.call (.t 86) [(.t 88), (.t 94)])])))
                               (.reg [o1 96 (.bin .add (.t 81) (cI 1)),
                                o1 81 (.mv (.t 96))])))))))
                         (.seq (.reg [o1 97 (.load none (.t 8)),
                           o1 98 (.rangeM (.t 97))])
                          (.block 10 (.loop (.seq (.reg [o1 99 (.nextM (.t 98)),
                              o1 100 (.ext (.t 99) 0)])
                             (.seq (.cond (.t 100) (.skip) (.exit 10))
                              (.block 11 (.seq (.reg [o1 101 (.entryM (.t 98)),
                                 o1 102 (.ext (.t 101) 0),
                                 o1 16 (.alloc 32 4 [(.string ⟨#[]⟩), (.string ⟨#[]⟩), (.int .i64 0), (.string ⟨#[]⟩)]),
                                 o0 (.store 4 (.t 16) (.t 102))])
                                (.regG [(true, o1 103 (.mv (.t 3))),
                                 (true, o1 104 (.load (some 4) (.t 16))),
                                 (true, o1 105 (.look (.flds [.str, .str, .int .i64, .str]) (.int .i64 0) false (.t 103) (.t 104))),
                                 (true, o1 106 (.bin .add (.t 105) (cI 1))),
                                 (true, o1 107 (.mentry (.flds [.str, .str, .int .i64, .str]) (.int .i64 0) (.t 103) (.t 104))),
                                 (false, o1 108 (.ext (.t 107) 1)),
                                 (false, o0 (.mstore (.t 103) (.t 108) (.t 106)))])))))))))))))))
                  (.reg [o1 109 (.bin .add (.t 27) (cI 1)),
                   o1 27 (.mv (.t 109))])))))))))
          (.reg [o1 110 (.bin .add (.t 20) (cI 1)),
           o1 20 (.mv (.t 110))])))))))
    (.seq (.reg [o1 111 (.mv (.t 3)),
      o1 2 (.mv (.t 111))])
     (.ret))))
theorem s66_ok : lookF Try.prog 66 = some (s66, 112, [.tmp 2]) := by kernel_rfl
set_option maxHeartbeats 8000000 in
theorem offered_ok (ls : List Lesson) (h : OkLs ls) (hs : SmV ls) : FnR P 66 [sl ls] (fun r => ∃ m : List (Change × Int), r = romA m ∧ Off m (offN ls ls.length 0)) := by
  have hls := h.1
  (refine fnR_look s66_ok (by simp) ((by rintro _ ⟨m, rfl, _⟩ k; simp [AV.bel, bels_romV])) fun S hS => cwp_sound _ _ _ _ ?_; simp (maxSteps := 900000) (disch := omega) only [s66, go_sem, Nat.reduceEqDiff, ↓reduceIte, reduceCtorEq, Nat.reduceAdd, Nat.reduceMul, Int.reduceToNat, List.reduceReplicate, Nat.reduceLeDiff, Nat.reduceLT, Int.reduceLT, Int.reduceLE, Int.reduceEq])
  repeat' (first | with_reducible refine inw ?_ | simp (maxSteps := 900000) (disch := omega) only [go_sem, Nat.reduceEqDiff, ↓reduceIte, reduceCtorEq, Nat.reduceAdd, Nat.reduceMul, Int.reduceToNat, List.reduceReplicate, Nat.reduceLeDiff, Nat.reduceLT, Int.reduceLT, Int.reduceLE, Int.reduceEq] | with_reducible refine giv_intro fun _h => ?_ | with_reducible refine alt_intro ?_ fun _h => ?_ | with_reducible refine pickD_nil ?_ | (with_reducible refine brc (fun _h => ?_) fun _h => ?_) <;> first | (exfalso; omega) | simp only [decide_eq_false _h] | simp only [(_h : (_ : Bool) = _)] | simp only [decide_eq_true _h] | skip)
  (refine loopC hS [3, 18, 19] (by simp only [go_sem, Nat.reduceEqDiff, ↓reduceIte, reduceCtorEq, Nat.reduceAdd, Nat.reduceMul, Int.reduceToNat, List.reduceReplicate, Nat.reduceLeDiff, Nat.reduceLT, Int.reduceLT, Int.reduceLE, Int.reduceEq]; try rfl) (fun (⟨i, m⟩ : Nat × List (Change × Int)) => [(20, intA i)]) (fun (⟨i, m⟩ : Nat × List (Change × Int)) => [mpO m]) (fun (⟨i, m⟩ : Nat × List (Change × Int)) => i ≤ ls.length ∧ Off m (offN ls i 0)) (fun (⟨i, m⟩ : Nat × List (Change × Int)) => ls.length - i) ((0, [])) ?h01 ?hn1 ?rd1; case hn1 => (intro s; first | rfl | (rcases s with ⟨_, _⟩; rfl) | (rcases s with ⟨_, _, _⟩; rfl) | (rcases s with ⟨_, _, _, _⟩; rfl) | (rcases s with ⟨_, _, _, _, _⟩; rfl)))
  · simp (maxSteps := 900000) (disch := omega) only [go_sem, Nat.reduceEqDiff, ↓reduceIte, reduceCtorEq, Nat.reduceAdd, Nat.reduceMul, Int.reduceToNat, List.reduceReplicate, Nat.reduceLeDiff, Nat.reduceLT, Int.reduceLT, Int.reduceLE, Int.reduceEq]
    exact ⟨Nat.zero_le _, List.nodup_nil, fun c => by rw [offN_0]; rfl⟩
  rintro ⟨i, m⟩ ⟨hi, hm⟩
  replace hi : i ≤ ls.length := hi
  replace hm : Off m (offN ls i 0) := hm
  by_cases hil : i < ls.length
  · obtain ⟨g1, g2, g3⟩ := h.2 _ (nth_mem hil)
    repeat' (first | with_reducible refine inw ?_ | simp (maxSteps := 900000) (disch := omega) only [go_sem, Nat.reduceEqDiff, ↓reduceIte, reduceCtorEq, Nat.reduceAdd, Nat.reduceMul, Int.reduceToNat, List.reduceReplicate, Nat.reduceLeDiff, Nat.reduceLT, Int.reduceLT, Int.reduceLE, Int.reduceEq] | with_reducible refine giv_intro fun _h => ?_ | with_reducible refine alt_intro ?_ fun _h => ?_ | with_reducible refine pickD_nil ?_ | (with_reducible refine brc (fun _h => ?_) fun _h => ?_) <;> first | (exfalso; omega) | simp only [decide_eq_false _h] | simp only [(_h : (_ : Bool) = _)] | simp only [decide_eq_true _h] | skip)
    (refine loopC hS [3, 5, 18, 19, 20, 25, 26] (by simp only [go_sem, Nat.reduceEqDiff, ↓reduceIte, reduceCtorEq, Nat.reduceAdd, Nat.reduceMul, Int.reduceToNat, List.reduceReplicate, Nat.reduceLeDiff, Nat.reduceLT, Int.reduceLT, Int.reduceLE, Int.reduceEq]; try rfl) (fun (⟨k, m⟩ : Nat × List (Change × Int)) => [(27, intA k)]) (fun (⟨k, m⟩ : Nat × List (Change × Int)) => [mpO m, some (Ob.row 56 3 [sl (nth ls i).1, sl (nth ls i).2.1, sl (nth ls i).2.2])]) (fun (⟨k, m⟩ : Nat × List (Change × Int)) => k ≤ (nth ls i).2.1.length ∧ Off m (offN ls i k)) (fun (⟨k, m⟩ : Nat × List (Change × Int)) => (nth ls i).2.1.length - k) ((0, m)) ?h02 ?hn2 ?rd2; case hn2 => (intro s; first | rfl | (rcases s with ⟨_, _⟩; rfl) | (rcases s with ⟨_, _, _⟩; rfl) | (rcases s with ⟨_, _, _, _⟩; rfl) | (rcases s with ⟨_, _, _, _, _⟩; rfl)))
    · simp (maxSteps := 900000) (disch := omega) only [go_sem, Nat.reduceEqDiff, ↓reduceIte, reduceCtorEq, Nat.reduceAdd, Nat.reduceMul, Int.reduceToNat, List.reduceReplicate, Nat.reduceLeDiff, Nat.reduceLT, Int.reduceLT, Int.reduceLE, Int.reduceEq]
      exact ⟨Nat.zero_le _, hm⟩
    clear hm m
    rintro ⟨k, m⟩ ⟨hk, hm⟩
    replace hk : k ≤ (nth ls i).2.1.length := hk
    replace hm : Off m (offN ls i k) := hm
    by_cases hkl : k < (nth ls i).2.1.length
    · repeat' (first | with_reducible refine inw ?_ | simp (maxSteps := 900000) (disch := omega) only [go_sem, Nat.reduceEqDiff, ↓reduceIte, reduceCtorEq, Nat.reduceAdd, Nat.reduceMul, Int.reduceToNat, List.reduceReplicate, Nat.reduceLeDiff, Nat.reduceLT, Int.reduceLT, Int.reduceLE, Int.reduceEq] | with_reducible refine giv_intro fun _h => ?_ | with_reducible refine alt_intro ?_ fun _h => ?_ | with_reducible refine pickD_nil ?_ | (with_reducible refine brc (fun _h => ?_) fun _h => ?_) <;> first | (exfalso; omega) | simp only [decide_eq_false _h] | simp only [(_h : (_ : Bool) = _)] | simp only [decide_eq_true _h] | skip)
      · exact ⟨(k + 1, m), ⟨by omega, by omega, off_fun hm (offN_same _h)⟩, by omega, rfl⟩
      · refine freezeCell 12 6 0 87 1 3 1 (by rfl) (by rfl) (by rfl) (by rfl) (by simp) (by simp) ?_
        simp only [List.set_cons_succ, List.set_cons_zero]
        refine freezeCell 12 7 1 87 1 3 1 (by rfl) (by rfl) (by rfl) (by rfl) (by simp) (by simp) ?_
        simp only [List.set_cons_succ, List.set_cons_zero]
        refine freezeCell 12 8 2 87 1 3 1 (by rfl) (by rfl) (by rfl) (by rfl) (by simp) (by simp) ?_
        simp only [List.set_cons_succ, List.set_cons_zero]
        refine freezeCell 12 9 3 87 1 3 1 (by rfl) (by rfl) (by rfl) (by rfl) (by simp) (by simp) ?_
        simp only [List.set_cons_succ, List.set_cons_zero]
        refine freezeCell 12 10 4 87 1 3 1 (by rfl) (by rfl) (by rfl) (by rfl) (by simp) (by simp) ?_
        simp only [List.set_cons_succ, List.set_cons_zero]
        refine freezeCell 12 11 5 87 1 3 1 (by rfl) (by rfl) (by rfl) (by rfl) (by simp) (by simp) ?_
        simp only [List.set_cons_succ, List.set_cons_zero]
        refine freezeF 55 12 87 far6 (by simp (maxSteps := 900000) (disch := omega) only [go_sem, Nat.reduceEqDiff, ↓reduceIte, reduceCtorEq, Nat.reduceAdd, Nat.reduceMul, Int.reduceToNat, List.reduceReplicate, Nat.reduceLeDiff, Nat.reduceLT, Int.reduceLT, Int.reduceLE, Int.reduceEq]; exact ⟨rfl, rfl⟩) (by rfl) (by simp) ?_
        simp only [List.set_cons_succ, List.set_cons_zero]
        obtain ⟨sw, st, sr⟩ := hs _ (nth_mem hil)
        have s1 := st _ (nth_mem (l := (nth ls i).2.1) (i := k) (by omega))
        have s2 := sr _ (nth_mem (l := (nth ls i).2.2) (i := k) (by omega))
        (refine loopC hS [3, 5, 6, 8, 9, 18, 19, 20, 25, 26, 27, 55, 56] (by simp only [go_sem, Nat.reduceEqDiff, ↓reduceIte, reduceCtorEq, Nat.reduceAdd, Nat.reduceMul, Int.reduceToNat, List.reduceReplicate, Nat.reduceLeDiff, Nat.reduceLT, Int.reduceLT, Int.reduceLE, Int.reduceEq]; try rfl) (fun (a : Nat) => [(57, intA a)]) (fun (a : Nat) => [mpO m, some (Ob.row 56 3 [sl (nth ls i).1, sl (nth ls i).2.1, sl (nth ls i).2.2]), some (Ob.row 3 1 [intA k]), some (Ob.row 9 1 [strA (nth (nth ls i).2.1 k)]), some (Ob.row 94 1 [.mp (S.nm 5)]), mpO (addL [((nth (nth ls i).2.1 k, nth (nth ls i).2.2 k, 9, ⟨#[]⟩), true)] (kP (nth ls i) k a)), none, none, none, none, none, none, none]) (fun (a : Nat) => a ≤ 6) (fun (a : Nat) => 6 - a) (0) ?h03 ?hn3 ?rd3; case hn3 => (intro s; first | rfl | (rcases s with ⟨_, _⟩; rfl) | (rcases s with ⟨_, _, _⟩; rfl) | (rcases s with ⟨_, _, _, _⟩; rfl) | (rcases s with ⟨_, _, _, _, _⟩; rfl)))
        · simp (maxSteps := 900000) (disch := omega) only [go_sem, Nat.reduceEqDiff, ↓reduceIte, reduceCtorEq, Nat.reduceAdd, Nat.reduceMul, Int.reduceToNat, List.reduceReplicate, Nat.reduceLeDiff, Nat.reduceLT, Int.reduceLT, Int.reduceLE, Int.reduceEq]; rfl
        rintro a ha
        replace ha : a ≤ 6 := ha
        by_cases hal : a < 6
        · have ef : nth far6 a = farD a := by
            have : a = 0 ∨ a = 1 ∨ a = 2 ∨ a = 3 ∨ a = 4 ∨ a = 5 := by omega
            rcases this with rfl | rfl | rfl | rfl | rfl | rfl <;> rfl
          have hfd : ∀ b, b < (farD a).length → -2 ≤ nth (farD a) b ∧ nth (farD a) b ≤ 2 := by
            have : a = 0 ∨ a = 1 ∨ a = 2 ∨ a = 3 ∨ a = 4 ∨ a = 5 := by omega
            rcases this with rfl | rfl | rfl | rfl | rfl | rfl <;> decide
          have hlf := far_len a
          have hl6 : far6.length = 6 := rfl
          repeat' (first | with_reducible refine inw ?_ | simp (maxSteps := 900000) (disch := omega) only [go_sem, Nat.reduceEqDiff, ↓reduceIte, reduceCtorEq, Nat.reduceAdd, Nat.reduceMul, Int.reduceToNat, List.reduceReplicate, Nat.reduceLeDiff, Nat.reduceLT, Int.reduceLT, Int.reduceLE, Int.reduceEq, ef, hl6] | with_reducible refine giv_intro fun _h => ?_ | with_reducible refine alt_intro ?_ fun _h => ?_ | with_reducible refine pickD_nil ?_ | (with_reducible refine brc (fun _h => ?_) fun _h => ?_) <;> first | (exfalso; omega) | simp only [decide_eq_false _h] | simp only [(_h : (_ : Bool) = _)] | simp only [decide_eq_true _h] | skip)
          (refine loopC hS [3, 5, 6, 8, 9, 10, 18, 19, 20, 25, 26, 27, 55, 56, 57, 62, 63] (by simp only [go_sem, Nat.reduceEqDiff, ↓reduceIte, reduceCtorEq, Nat.reduceAdd, Nat.reduceMul, Int.reduceToNat, List.reduceReplicate, Nat.reduceLeDiff, Nat.reduceLT, Int.reduceLT, Int.reduceLE, Int.reduceEq]; try rfl) (fun (b : Nat) => [(64, intA b)]) (fun (b : Nat) => [mpO m, some (Ob.row 56 3 [sl (nth ls i).1, sl (nth ls i).2.1, sl (nth ls i).2.2]), some (Ob.row 3 1 [intA k]), some (Ob.row 9 1 [strA (nth (nth ls i).2.1 k)]), some (Ob.row 94 1 [.mp (S.nm 5)]), mpO (addL [((nth (nth ls i).2.1 k, nth (nth ls i).2.2 k, 9, ⟨#[]⟩), true)] (kP (nth ls i) k a ++ (kAt (nth ls i) k a).take b)), none, none, none, none, none, none, none]) (fun (b : Nat) => b ≤ (farD a).length) (fun (b : Nat) => (farD a).length - b) (0) ?h04 ?hn4 ?rd4; case hn4 => (intro s; first | rfl | (rcases s with ⟨_, _⟩; rfl) | (rcases s with ⟨_, _, _⟩; rfl) | (rcases s with ⟨_, _, _, _⟩; rfl) | (rcases s with ⟨_, _, _, _, _⟩; rfl)))
          · simp (maxSteps := 900000) (disch := omega) only [go_sem, Nat.reduceEqDiff, ↓reduceIte, reduceCtorEq, Nat.reduceAdd, Nat.reduceMul, Int.reduceToNat, List.reduceReplicate, Nat.reduceLeDiff, Nat.reduceLT, Int.reduceLT, Int.reduceLE, Int.reduceEq]; simp
          rintro b hb
          replace hb : b ≤ (farD a).length := hb
          by_cases hbl : b < (farD a).length
          · have hd := hfd b hbl
            have e5 : (if 5 < a then (nth ls i).1 else (nth ls i).2.1) = (nth ls i).2.1 := if_neg (by omega)
            have c1 := at_ok (nth ls i).2.1 ((k : Int) + nth (farD a) b)
            have c2 := isArg_ok (nth (nth ls i).2.1 k, nth (nth ls i).2.2 k, (a : Int), atS (nth ls i).2.1 ((k : Int) + nth (farD a) b)) ⟨s1, s2, atS_size st _⟩
            have e6 := kAt_step (x := nth ls i) (k := k) hbl
            rw [e5] at e6
            repeat' (first | with_reducible refine inw ?_ | simp (maxSteps := 900000) (disch := omega) only [go_sem, Nat.reduceEqDiff, ↓reduceIte, reduceCtorEq, Nat.reduceAdd, Nat.reduceMul, Int.reduceToNat, List.reduceReplicate, Nat.reduceLeDiff, Nat.reduceLT, Int.reduceLT, Int.reduceLE, Int.reduceEq, ef, hl6] | (with_reducible apply call (c1)); (focus simp (maxSteps := 900000) (disch := omega) only [go_sem, Nat.reduceEqDiff, ↓reduceIte, reduceCtorEq, Nat.reduceAdd, Nat.reduceMul, Int.reduceToNat, List.reduceReplicate, Nat.reduceLeDiff, Nat.reduceLT, Int.reduceLT, Int.reduceLE, Int.reduceEq, ef, hl6] <;> rfl) | (with_reducible apply call (c2)); (focus simp (maxSteps := 900000) (disch := omega) only [go_sem, Nat.reduceEqDiff, ↓reduceIte, reduceCtorEq, Nat.reduceAdd, Nat.reduceMul, Int.reduceToNat, List.reduceReplicate, Nat.reduceLeDiff, Nat.reduceLT, Int.reduceLT, Int.reduceLE, Int.reduceEq, ef, hl6] <;> rfl) | (with_reducible refine callI s76_ok (by simp) hS (cwp_sound _ _ _ _ ?_)); simp (maxSteps := 900000) (disch := omega) only [s76, go_sem, Nat.reduceEqDiff, ↓reduceIte, reduceCtorEq, Nat.reduceAdd, Nat.reduceMul, Int.reduceToNat, List.reduceReplicate, Nat.reduceLeDiff, Nat.reduceLT, Int.reduceLT, Int.reduceLE, Int.reduceEq, ef, hl6] | with_reducible refine giv_intro fun _h => ?_ | with_reducible refine alt_intro ?_ fun _h => ?_ | with_reducible refine pickD_nil ?_ | (with_reducible refine brc (fun _h => ?_) fun _h => ?_) <;> first | (exfalso; omega) | simp only [decide_eq_false _h] | simp only [(_h : (_ : Bool) = _)] | simp only [decide_eq_true _h] | skip)
            all_goals refine ⟨b + 1, ⟨by omega, by omega⟩, by omega, ?_⟩
            · rw [e6, ← List.append_assoc, addL_step, if_pos _h]
            · rw [e6, ← List.append_assoc, addL_step, if_neg (by rw [_h]; simp)]
          · repeat' (first | with_reducible refine inw ?_ | simp (maxSteps := 900000) (disch := omega) only [go_sem, Nat.reduceEqDiff, ↓reduceIte, reduceCtorEq, Nat.reduceAdd, Nat.reduceMul, Int.reduceToNat, List.reduceReplicate, Nat.reduceLeDiff, Nat.reduceLT, Int.reduceLT, Int.reduceLE, Int.reduceEq] | with_reducible refine giv_intro fun _h => ?_ | with_reducible refine alt_intro ?_ fun _h => ?_ | with_reducible refine pickD_nil ?_ | (with_reducible refine brc (fun _h => ?_) fun _h => ?_) <;> first | (exfalso; omega) | simp only [decide_eq_false _h] | simp only [(_h : (_ : Bool) = _)] | simp only [decide_eq_true _h] | skip)
            refine ⟨a + 1, ⟨by omega, by omega⟩, by omega, ?_⟩
            rw [kP, kP, range_flat, List.take_of_length_le (by rw [kAt, List.length_map]; omega)]
        · have : a = 6 := by omega
          subst this
          repeat' (first | with_reducible refine inw ?_ | simp (maxSteps := 900000) (disch := omega) only [go_sem, Nat.reduceEqDiff, ↓reduceIte, reduceCtorEq, Nat.reduceAdd, Nat.reduceMul, Int.reduceToNat, List.reduceReplicate, Nat.reduceLeDiff, Nat.reduceLT, Int.reduceLT, Int.reduceLE, Int.reduceEq] | with_reducible refine giv_intro fun _h => ?_ | with_reducible refine alt_intro ?_ fun _h => ?_ | with_reducible refine pickD_nil ?_ | (with_reducible refine brc (fun _h => ?_) fun _h => ?_) <;> first | (exfalso; omega) | simp only [decide_eq_false _h] | simp only [(_h : (_ : Bool) = _)] | simp only [decide_eq_true _h] | skip)
          refine freezeF 79 13 3 ([0, -1, 1] : List Int) (by simp (maxSteps := 900000) (disch := omega) only [go_sem, Nat.reduceEqDiff, ↓reduceIte, reduceCtorEq, Nat.reduceAdd, Nat.reduceMul, Int.reduceToNat, List.reduceReplicate, Nat.reduceLeDiff, Nat.reduceLT, Int.reduceLT, Int.reduceLE, Int.reduceEq]) (by rfl) (by simp) ?_
          simp only [List.set_cons_succ, List.set_cons_zero]
          (refine loopC hS [3, 5, 6, 8, 9, 18, 19, 20, 25, 26, 27, 79, 80] (by simp only [go_sem, Nat.reduceEqDiff, ↓reduceIte, reduceCtorEq, Nat.reduceAdd, Nat.reduceMul, Int.reduceToNat, List.reduceReplicate, Nat.reduceLeDiff, Nat.reduceLT, Int.reduceLT, Int.reduceLE, Int.reduceEq]; try rfl) (fun (q : Nat) => [(81, intA q)]) (fun (q : Nat) => [mpO m, some (Ob.row 56 3 [sl (nth ls i).1, sl (nth ls i).2.1, sl (nth ls i).2.2]), some (Ob.row 3 1 [intA k]), some (Ob.row 9 1 [strA (nth (nth ls i).2.1 k)]), some (Ob.row 94 1 [.mp (S.nm 5)]), mpO (addL [((nth (nth ls i).2.1 k, nth (nth ls i).2.2 k, 9, ⟨#[]⟩), true)] (kP (nth ls i) k (6 + q))), none, none, none, none, none, none, none, none]) (fun (q : Nat) => q ≤ 3) (fun (q : Nat) => 3 - q) (0) ?h05 ?hn5 ?rd5; case hn5 => (intro s; first | rfl | (rcases s with ⟨_, _⟩; rfl) | (rcases s with ⟨_, _, _⟩; rfl) | (rcases s with ⟨_, _, _, _⟩; rfl) | (rcases s with ⟨_, _, _, _, _⟩; rfl)))
          · simp (maxSteps := 900000) (disch := omega) only [go_sem, Nat.reduceEqDiff, ↓reduceIte, reduceCtorEq, Nat.reduceAdd, Nat.reduceMul, Int.reduceToNat, List.reduceReplicate, Nat.reduceLeDiff, Nat.reduceLT, Int.reduceLT, Int.reduceLE, Int.reduceEq]
          rintro q hq
          replace hq : q ≤ 3 := hq
          by_cases hql : q < 3
          · have hq3 : q = 0 ∨ q = 1 ∨ q = 2 := by omega
            have hd : -1 ≤ nth [0, -1, 1] q ∧ nth ([0, -1, 1] : List Int) q ≤ 1 := by rcases hq3 with rfl | rfl | rfl <;> decide
            have e6 : kP (nth ls i) k (6 + (q + 1)) = kP (nth ls i) k (6 + q) ++ [(nth (nth ls i).2.1 k, nth (nth ls i).2.2 k, 6 + (q : Int), atS (nth ls i).1 ((k : Int) + nth [0, -1, 1] q))] := by
              show kP (nth ls i) k (6 + q + 1) = _
              rw [kP, range_flat, ← kP]
              rcases hq3 with rfl | rfl | rfl <;> rfl
            have c1 := at_ok (nth ls i).1 ((k : Int) + nth [0, -1, 1] q)
            have c2 := isArg_ok (nth (nth ls i).2.1 k, nth (nth ls i).2.2 k, 6 + (q : Int), atS (nth ls i).1 ((k : Int) + nth [0, -1, 1] q)) ⟨s1, s2, atS_size sw _⟩
            repeat' (first | with_reducible refine inw ?_ | simp (maxSteps := 900000) (disch := omega) only [go_sem, Nat.reduceEqDiff, ↓reduceIte, reduceCtorEq, Nat.reduceAdd, Nat.reduceMul, Int.reduceToNat, List.reduceReplicate, Nat.reduceLeDiff, Nat.reduceLT, Int.reduceLT, Int.reduceLE, Int.reduceEq] | (with_reducible apply call (c1)); (focus simp (maxSteps := 900000) (disch := omega) only [go_sem, Nat.reduceEqDiff, ↓reduceIte, reduceCtorEq, Nat.reduceAdd, Nat.reduceMul, Int.reduceToNat, List.reduceReplicate, Nat.reduceLeDiff, Nat.reduceLT, Int.reduceLT, Int.reduceLE, Int.reduceEq] <;> rfl) | (with_reducible apply call (c2)); (focus simp (maxSteps := 900000) (disch := omega) only [go_sem, Nat.reduceEqDiff, ↓reduceIte, reduceCtorEq, Nat.reduceAdd, Nat.reduceMul, Int.reduceToNat, List.reduceReplicate, Nat.reduceLeDiff, Nat.reduceLT, Int.reduceLT, Int.reduceLE, Int.reduceEq] <;> rfl) | (with_reducible refine callI s76_ok (by simp) hS (cwp_sound _ _ _ _ ?_)); simp (maxSteps := 900000) (disch := omega) only [s76, go_sem, Nat.reduceEqDiff, ↓reduceIte, reduceCtorEq, Nat.reduceAdd, Nat.reduceMul, Int.reduceToNat, List.reduceReplicate, Nat.reduceLeDiff, Nat.reduceLT, Int.reduceLT, Int.reduceLE, Int.reduceEq] | with_reducible refine giv_intro fun _h => ?_ | with_reducible refine alt_intro ?_ fun _h => ?_ | with_reducible refine pickD_nil ?_ | (with_reducible refine brc (fun _h => ?_) fun _h => ?_) <;> first | (exfalso; omega) | simp only [decide_eq_false _h] | simp only [(_h : (_ : Bool) = _)] | simp only [decide_eq_true _h] | skip)
            all_goals refine ⟨q + 1, ⟨by omega, by omega⟩, by omega, ?_⟩
            · rw [e6, addL_step, if_pos _h]
            · rw [e6, addL_step, if_neg (by rw [_h]; simp)]
          · have : q = 3 := by omega
            subst this
            have hx : nth (nth ls i).2.1 k ≠ nth (nth ls i).2.2 k := by assumption
            refine freezeCellM 4 5 0 94 1 (hereM (nth ls i) k) (by rfl) (by rfl) (by rfl) (by simp) ?_
            simp only [List.set_cons_succ, List.set_cons_zero]
            repeat' (first | with_reducible refine inw ?_ | simp (maxSteps := 900000) (disch := omega) only [go_sem, Nat.reduceEqDiff, ↓reduceIte, reduceCtorEq, Nat.reduceAdd, Nat.reduceMul, Int.reduceToNat, List.reduceReplicate, Nat.reduceLeDiff, Nat.reduceLT, Int.reduceLT, Int.reduceLE, Int.reduceEq] | with_reducible refine giv_intro fun _h => ?_ | with_reducible refine alt_intro ?_ fun _h => ?_ | with_reducible refine pickD_nil ?_ | (with_reducible refine brc (fun _h => ?_) fun _h => ?_) <;> first | (exfalso; omega) | simp only [decide_eq_false _h] | simp only [(_h : (_ : Bool) = _)] | simp only [decide_eq_true _h] | skip)
            have hu0 := keysU_here (nth ls i) k
            generalize hH : hereM (nth ls i) k = H at *
            (refine loopC hS [3, 5, 18, 19, 20, 25, 26, 27, 98] (by simp only [go_sem, Nat.reduceEqDiff, ↓reduceIte, reduceCtorEq, Nat.reduceAdd, Nat.reduceMul, Int.reduceToNat, List.reduceReplicate, Nat.reduceLeDiff, Nat.reduceLT, Int.reduceLT, Int.reduceLE, Int.reduceEq]; try rfl) (fun (⟨cur, left, m⟩ : Option (Change × Bool) × List (Change × Bool) × List (Change × Int)) => []) (fun (⟨cur, left, m⟩ : Option (Change × Bool) × List (Change × Bool) × List (Change × Int)) => [mpO m, some (Ob.row 56 3 [sl (nth ls i).1, sl (nth ls i).2.1, sl (nth ls i).2.2]), none, none, none, none, none, none, none, none, none, none, none, none, itO cur left]) (fun (⟨cur, left, m⟩ : Option (Change × Bool) × List (Change × Bool) × List (Change × Int)) => keysU left ∧ (∀ c v, getM left c = some v → getM H c = some v) ∧ Off m (mid H left (offN ls i k))) (fun (⟨cur, left, m⟩ : Option (Change × Bool) × List (Change × Bool) × List (Change × Int)) => left.length) ((none, H, m)) ?h06 ?hn6 ?rd6; case hn6 => (intro s; first | rfl | (rcases s with ⟨_, _⟩; rfl) | (rcases s with ⟨_, _, _⟩; rfl) | (rcases s with ⟨_, _, _, _⟩; rfl) | (rcases s with ⟨_, _, _, _, _⟩; rfl)))
            · simp (maxSteps := 900000) (disch := omega) only [go_sem, Nat.reduceEqDiff, ↓reduceIte, reduceCtorEq, Nat.reduceAdd, Nat.reduceMul, Int.reduceToNat, List.reduceReplicate, Nat.reduceLeDiff, Nat.reduceLT, Int.reduceLT, Int.reduceLE, Int.reduceEq]
              exact ⟨⟨hu0, fun c v hv => hv, mid_start hm⟩, rfl⟩
            clear hm m
            rintro ⟨cur, left, m⟩ ⟨hu, hsub, hm⟩
            repeat' (first | with_reducible refine inw ?_ | simp (maxSteps := 900000) (disch := omega) only [go_sem, Nat.reduceEqDiff, ↓reduceIte, reduceCtorEq, Nat.reduceAdd, Nat.reduceMul, Int.reduceToNat, List.reduceReplicate, Nat.reduceLeDiff, Nat.reduceLT, Int.reduceLT, Int.reduceLE, Int.reduceEq] | with_reducible refine giv_intro fun _h => ?_ | with_reducible refine alt_intro ?_ fun _h => ?_ | with_reducible refine pickD_nil ?_ | (with_reducible refine brc (fun _h => ?_) fun _h => ?_) <;> first | (exfalso; omega) | simp only [decide_eq_false _h] | simp only [(_h : (_ : Bool) = _)] | simp only [decide_eq_true _h] | skip)
            refine next_intro (fun hl0 => ?_) fun j hj => ?_
            · subst hl0
              subst hH
              have hm2 := mid_end hx hm
              repeat' (first | with_reducible refine inw ?_ | simp (maxSteps := 900000) (disch := omega) only [go_sem, Nat.reduceEqDiff, ↓reduceIte, reduceCtorEq, Nat.reduceAdd, Nat.reduceMul, Int.reduceToNat, List.reduceReplicate, Nat.reduceLeDiff, Nat.reduceLT, Int.reduceLT, Int.reduceLE, Int.reduceEq] | with_reducible refine giv_intro fun _h => ?_ | with_reducible refine alt_intro ?_ fun _h => ?_ | with_reducible refine pickD_nil ?_ | (with_reducible refine brc (fun _h => ?_) fun _h => ?_) <;> first | (exfalso; omega) | simp only [decide_eq_false _h] | simp only [(_h : (_ : Bool) = _)] | simp only [decide_eq_true _h] | skip)
              exact ⟨(k + 1, m), ⟨by omega, by omega, off_fun hm2 (offN_step ls i k)⟩, by omega, rfl⟩
            · obtain ⟨m1, m2⟩ := mid_step hm hu hsub hj
              have hn := offN_le h (i := i) (k := k) (by omega) left[j].1
              have hlt : (left.eraseIdx j).length < left.length := by rw [List.length_eraseIdx_of_lt hj]; omega
              have hb : (getM m (left[j].1.1, left[j].1.2.1, left[j].1.2.2.1, left[j].1.2.2.2)).getD 0 = (offN ls i k left[j].1 : Int) := m1
              repeat' (first | with_reducible refine inw ?_ | simp (maxSteps := 900000) (disch := omega) only [go_sem, Nat.reduceEqDiff, ↓reduceIte, reduceCtorEq, Nat.reduceAdd, Nat.reduceMul, Int.reduceToNat, List.reduceReplicate, Nat.reduceLeDiff, Nat.reduceLT, Int.reduceLT, Int.reduceLE, Int.reduceEq] | with_reducible refine pickD_at [(S.nm 0, some (.iter (.mapz (.flds [.str, .str, .int .i64, .str]) (.int .i64 0) (mapC m))))] ?_ | with_reducible refine giv_intro fun _h => ?_ | with_reducible refine alt_intro ?_ fun _h => ?_ | with_reducible refine pickD_nil ?_ | (with_reducible refine brc (fun _h => ?_) fun _h => ?_) <;> first | (exfalso; omega) | simp only [decide_eq_false _h] | simp only [(_h : (_ : Bool) = _)] | simp only [decide_eq_true _h] | skip)
              exact ⟨(some left[j], left.eraseIdx j, putM m left[j].1 ((getM m left[j].1).getD 0 + 1)), ⟨hlt, keysU_erase hu j, fun c v hv => by
                rw [getM_erase hu hj] at hv
                split at hv
                · cases hv
                · exact hsub _ _ hv, m2⟩, rfl, rfl, rfl⟩
    · have : k = (nth ls i).2.1.length := by omega
      subst this
      repeat' (first | with_reducible refine inw ?_ | simp (maxSteps := 900000) (disch := omega) only [go_sem, Nat.reduceEqDiff, ↓reduceIte, reduceCtorEq, Nat.reduceAdd, Nat.reduceMul, Int.reduceToNat, List.reduceReplicate, Nat.reduceLeDiff, Nat.reduceLT, Int.reduceLT, Int.reduceLE, Int.reduceEq] | with_reducible refine giv_intro fun _h => ?_ | with_reducible refine alt_intro ?_ fun _h => ?_ | with_reducible refine pickD_nil ?_ | (with_reducible refine brc (fun _h => ?_) fun _h => ?_) <;> first | (exfalso; omega) | simp only [decide_eq_false _h] | simp only [(_h : (_ : Bool) = _)] | simp only [decide_eq_true _h] | skip)
      exact ⟨(i + 1, m), ⟨by omega, by omega, off_fun hm (offN_next ls i)⟩, by omega, rfl⟩
  · have : i = ls.length := by omega
    subst this
    repeat' (first | with_reducible refine inw ?_ | simp (maxSteps := 900000) (disch := omega) only [go_sem, Nat.reduceEqDiff, ↓reduceIte, reduceCtorEq, Nat.reduceAdd, Nat.reduceMul, Int.reduceToNat, List.reduceReplicate, Nat.reduceLeDiff, Nat.reduceLT, Int.reduceLT, Int.reduceLE, Int.reduceEq] | with_reducible refine giv_intro fun _h => ?_ | with_reducible refine alt_intro ?_ fun _h => ?_ | with_reducible refine pickD_nil ?_ | (with_reducible refine brc (fun _h => ?_) fun _h => ?_) <;> first | (exfalso; omega) | simp only [decide_eq_false _h] | simp only [(_h : (_ : Bool) = _)] | simp only [decide_eq_true _h] | skip)
    exact ⟨m, rfl, hm⟩
end Go.Proofs.Ytapgimibdamjoaa.Ev

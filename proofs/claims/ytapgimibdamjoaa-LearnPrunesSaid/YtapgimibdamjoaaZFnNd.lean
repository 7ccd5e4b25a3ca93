/- The reference's view of lessons. -/
import Derived.Test.YtapgimibdamjoaaZFnNc
set_option linter.unusedVariables false
set_option linter.unusedSimpArgs false
namespace Go.Proofs.Ytapgimibdamjoaa.Ev
open Go Go.Proofs

theorem nm_all {x : Lesson} (hf : fitL x = true) : nmL x = true ↔ ∀ k, k < x.1.length → nameB (nth x.2.1 k) = true ∧ nameB (nth x.2.2 k) = true := by
  rw [fitL] at hf
  simp only [Bool.and_eq_true, decide_eq_true_eq] at hf
  rw [nmL, Bool.and_eq_true]
  constructor
  · intro ⟨h1, h2⟩ k hk
    rw [List.all_eq_true] at h1 h2
    exact ⟨h1 _ (nth_mem (by omega)), h2 _ (nth_mem (by omega))⟩
  · exact fun h => ⟨all_nth fun j hj => (h j (by omega)).1, all_nth fun j hj => (h j (by omega)).2⟩
/-- ablaut/ablautref22.ValidateLessons: 1 parameters, 0 captured -/
def s16 : SC := .seq (.reg [o1 2 (.mv (cI 0))])
  (.seq (.seq (.reg [o1 8 (.mv (.t 0)),
     o1 9 (.lenL (.t 8)),
     o1 10 (.bin .gtr (.t 9) (cI 200))])
    (.cond (.t 10) (.seq (.reg [o1 2 (.mv (cI 3))])
      (.ret)) (.skip)))
   (.seq (.seq (.reg [o1 3 (.mv (cI 0))])
     (.block 0 (.loop (.seq (.seq (.reg [o1 11 (.mv (.t 3)),
          o1 12 (.mv (.t 0)),
          o1 13 (.lenL (.t 12)),
          o1 14 (.bin .lss (.t 11) (.t 13))])
         (.cond (.t 14) (.skip) (.exit 0)))
        (.seq (.block 1 (.seq (.seq (.reg [o1 17 (.mv (.t 0)),
             o1 18 (.mv (.t 3)),
             o1 19 (.iaddr 3 (.t 17) (.t 18)),
             o1 20 (.faddr 0 (.t 19)),
             o1 21 (.load none (.t 20)),
             o1 22 (.lenL (.t 21)),
             o1 23 (.bin .gtr (.t 22) (cI 200))])
            (.cond (.t 23) (.seq (.reg [o1 2 (.mv (cI 3))])
              (.ret)) (.skip)))
           (.seq (.reg [o1 4 (.mv (cI 0))])
            (.block 2 (.loop (.seq (.seq (.reg [o1 24 (.mv (.t 4)),
                 o1 25 (.mv (.t 0)),
                 o1 26 (.mv (.t 3)),
                 o1 27 (.iaddr 3 (.t 25) (.t 26)),
                 o1 28 (.faddr 0 (.t 27)),
                 o1 29 (.load none (.t 28)),
                 o1 30 (.lenL (.t 29)),
                 o1 31 (.bin .lss (.t 24) (.t 30))])
                (.cond (.t 31) (.skip) (.exit 2)))
               (.seq (.block 3 (.seq (.reg [o1 34 (.mv (.t 0)),
                   o1 35 (.mv (.t 3)),
                   o1 36 (.iaddr 3 (.t 34) (.t 35)),
                   o1 37 (.faddr 0 (.t 36)),
                   o1 38 (.load none (.t 37)),
                   o1 39 (.mv (.t 4)),
                   o1 40 (.iaddr 1 (.t 38) (.t 39)),
                   o1 41 (.load none (.t 40)),
                   o1 42 (.lenS (.t 41)),
                   o1 43 (.bin .gtr (.t 42) (cI 400))])
                  (.cond (.t 43) (.seq (.reg [o1 2 (.mv (cI 3))])
                    (.ret)) (.skip))))
                (.reg [o1 32 (.mv (.t 4)),
                 o1 33 (.bin .add (.t 32) (cI 1)),
                 o1 4 (.mv (.t 33))]))))))))
         (.reg [o1 15 (.mv (.t 3)),
          o1 16 (.bin .add (.t 15) (cI 1)),
          o1 3 (.mv (.t 16))]))))))
    (.seq (.seq (.reg [o1 5 (.mv (cI 0))])
      (.block 4 (.loop (.seq (.seq (.reg [o1 44 (.mv (.t 5)),
           o1 45 (.mv (.t 0)),
           o1 46 (.lenL (.t 45)),
           o1 47 (.bin .lss (.t 44) (.t 46))])
          (.cond (.t 47) (.skip) (.exit 4)))
         (.seq (.block 5 (.seq (.regD [o1 50 (.mv (.t 0)),
             o1 51 (.mv (.t 5)),
             o1 52 (.iaddr 3 (.t 50) (.t 51)),
             o1 53 (.faddr 1 (.t 52)),
             o1 54 (.load none (.t 53)),
             o1 55 (.lenL (.t 54)),
             o1 56 (.mv (.t 0)),
             o1 57 (.mv (.t 5)),
             o1 58 (.iaddr 3 (.t 56) (.t 57)),
             o1 59 (.faddr 0 (.t 58)),
             o1 60 (.load none (.t 59)),
             o1 61 (.lenL (.t 60)),
             o1 62 (.bin .neq (.t 55) (.t 61)),
             o1 63 (.mv (.t 62)),
             oF 64 (.mv (.t 0)) 63,
             oF 65 (.mv (.t 5)) 63,
             oF 66 (.iaddr 3 (.t 64) (.t 65)) 63,
             oF 67 (.faddr 2 (.t 66)) 63,
             oF 68 (.load none (.t 67)) 63,
             oF 69 (.lenL (.t 68)) 63,
             oF 70 (.mv (.t 0)) 63,
             oF 71 (.mv (.t 5)) 63,
             oF 72 (.iaddr 3 (.t 70) (.t 71)) 63,
             oF 73 (.faddr 0 (.t 72)) 63,
             oF 74 (.load none (.t 73)) 63,
             oF 75 (.lenL (.t 74)) 63,
             oF 76 (.bin .neq (.t 69) (.t 75)) 63,
             o1 77 (.pick (.t 63) (cB true) (.t 76))])
            (.cond (.t 77) (.seq (.reg [o1 2 (.mv (cI 10))])
              (.ret)) (.skip))))
          (.reg [o1 48 (.mv (.t 5)),
           o1 49 (.bin .add (.t 48) (cI 1)),
           o1 5 (.mv (.t 49))]))))))
     (.seq (.seq (.reg [o1 6 (.mv (cI 0))])
       (.block 6 (.loop (.seq (.seq (.reg [o1 78 (.mv (.t 6)),
            o1 79 (.mv (.t 0)),
            o1 80 (.lenL (.t 79)),
            o1 81 (.bin .lss (.t 78) (.t 80))])
           (.cond (.t 81) (.skip) (.exit 6)))
          (.seq (.block 7 (.seq (.reg [o1 7 (.mv (cI 0))])
             (.block 8 (.loop (.seq (.seq (.reg [o1 84 (.mv (.t 7)),
                  o1 85 (.mv (.t 0)),
                  o1 86 (.mv (.t 6)),
                  o1 87 (.iaddr 3 (.t 85) (.t 86)),
                  o1 88 (.faddr 0 (.t 87)),
                  o1 89 (.load none (.t 88)),
                  o1 90 (.lenL (.t 89)),
                  o1 91 (.bin .lss (.t 84) (.t 90))])
                 (.cond (.t 91) (.skip) (.exit 8)))
                (.seq (.block 9 (.seq (.reg [o1 94 (.mv (.t 0)),
                    o1 95 (.mv (.t 6)),
                    o1 96 (.iaddr 3 (.t 94) (.t 95)),
                    o1 97 (.faddr 1 (.t 96)),
                    o1 98 (.load none (.t 97)),
                    o1 99 (.mv (.t 7)),
                    o1 100 (.iaddr 1 (.t 98) (.t 99)),
                    o1 101 (.load none (.t 100)),
                    o1 102 (.call (.f 43) [(.t 101)]),
                    o1 103 (.un .not (.t 102)),
                    o1 104 (.mv (.t 103)),
                    oF 105 (.mv (.t 0)) 104,
                    oF 106 (.mv (.t 6)) 104,
                    oF 107 (.iaddr 3 (.t 105) (.t 106)) 104,
                    oF 108 (.faddr 2 (.t 107)) 104,
                    oF 109 (.load none (.t 108)) 104,
                    oF 110 (.mv (.t 7)) 104,
                    oF 111 (.iaddr 1 (.t 109) (.t 110)) 104,
                    oF 112 (.load none (.t 111)) 104,
                    oF 113 (.call (.f 43) [(.t 112)]) 104,
                    oF 114 (.un .not (.t 113)) 104,
                    o1 115 (.pick (.t 104) (cB true) (.t 114))])
                   (.cond (.t 115) (.seq (.reg [o1 2 (.mv (cI 1))])
                     (.ret)) (.skip))))
                 (.reg [o1 92 (.mv (.t 7)),
                  o1 93 (.bin .add (.t 92) (cI 1)),
                  o1 7 (.mv (.t 93))])))))))
           (.reg [o1 82 (.mv (.t 6)),
            o1 83 (.bin .add (.t 82) (cI 1)),
            o1 6 (.mv (.t 83))]))))))
      (.seq (.reg [o1 2 (.mv (cI 0))])
       (.ret))))))
theorem s16_ok : lookF Try.prog 16 = some (s16, 116, [.tmp 2]) := by kernel_rfl
set_option maxHeartbeats 2000000 in
theorem rValidateL_ok (l : List Lesson) (hs : ∀ x ∈ l, SmL x) : Fn P 16 [sl l] (intA (valL l)) := by
  by_cases h1 : 200 < l.length
  · rw [valL, if_pos h1]
    (refine fn_look s16_ok (by simp) (by intro k; simp only [go_sem, Nat.reduceEqDiff, ↓reduceIte, reduceCtorEq, Nat.reduceAdd, Nat.reduceMul, Int.reduceToNat, List.reduceReplicate, Nat.reduceLeDiff, Nat.reduceLT, Int.reduceLT, Int.reduceLE, Int.reduceEq]) fun S hS => cwp_sound _ _ _ _ ?_; simp (maxSteps := 900000) (disch := omega) only [s16, go_sem, Nat.reduceEqDiff, ↓reduceIte, reduceCtorEq, Nat.reduceAdd, Nat.reduceMul, Int.reduceToNat, List.reduceReplicate, Nat.reduceLeDiff, Nat.reduceLT, Int.reduceLT, Int.reduceLE, Int.reduceEq])
    repeat' (first | with_reducible refine inw ?_ | simp (maxSteps := 900000) (disch := omega) only [go_sem, Nat.reduceEqDiff, ↓reduceIte, reduceCtorEq, Nat.reduceAdd, Nat.reduceMul, Int.reduceToNat, List.reduceReplicate, Nat.reduceLeDiff, Nat.reduceLT, Int.reduceLT, Int.reduceLE, Int.reduceEq] | with_reducible refine giv_intro fun _h => ?_ | with_reducible refine alt_intro ?_ fun _h => ?_ | with_reducible refine pickD_nil ?_ | (with_reducible refine brc (fun _h => ?_) fun _h => ?_) <;> first | (exfalso; omega) | simp only [decide_eq_false _h] | simp only [(_h : (_ : Bool) = _)] | simp only [decide_eq_true _h] | skip)
  · rw [valL, if_neg h1]
    (refine fn_look s16_ok (by simp) (by intro k; simp only [go_sem, Nat.reduceEqDiff, ↓reduceIte, reduceCtorEq, Nat.reduceAdd, Nat.reduceMul, Int.reduceToNat, List.reduceReplicate, Nat.reduceLeDiff, Nat.reduceLT, Int.reduceLT, Int.reduceLE, Int.reduceEq]) fun S hS => cwp_sound _ _ _ _ ?_; simp (maxSteps := 900000) (disch := omega) only [s16, go_sem, Nat.reduceEqDiff, ↓reduceIte, reduceCtorEq, Nat.reduceAdd, Nat.reduceMul, Int.reduceToNat, List.reduceReplicate, Nat.reduceLeDiff, Nat.reduceLT, Int.reduceLT, Int.reduceLE, Int.reduceEq])
    repeat' (first | with_reducible refine inw ?_ | simp (maxSteps := 900000) (disch := omega) only [go_sem, Nat.reduceEqDiff, ↓reduceIte, reduceCtorEq, Nat.reduceAdd, Nat.reduceMul, Int.reduceToNat, List.reduceReplicate, Nat.reduceLeDiff, Nat.reduceLT, Int.reduceLT, Int.reduceLE, Int.reduceEq] | with_reducible refine giv_intro fun _h => ?_ | with_reducible refine alt_intro ?_ fun _h => ?_ | with_reducible refine pickD_nil ?_ | (with_reducible refine brc (fun _h => ?_) fun _h => ?_) <;> first | (exfalso; omega) | simp only [decide_eq_false _h] | simp only [(_h : (_ : Bool) = _)] | simp only [decide_eq_true _h] | skip)
    (refine loopC hS [0] (by simp only [go_sem, Nat.reduceEqDiff, ↓reduceIte, reduceCtorEq, Nat.reduceAdd, Nat.reduceMul, Int.reduceToNat, List.reduceReplicate, Nat.reduceLeDiff, Nat.reduceLT, Int.reduceLT, Int.reduceLE, Int.reduceEq]; try rfl) (fun (i : Nat) => [(3, intA i)]) (fun (i : Nat) => []) (fun (i : Nat) => i ≤ l.length ∧ ∀ j, j < i → longL (nth l j) = false) (fun (i : Nat) => l.length - i) (0) ?h01 ?hn1 ?rd1; case hn1 => (intro s; first | rfl | (rcases s with ⟨_, _⟩; rfl) | (rcases s with ⟨_, _, _⟩; rfl) | (rcases s with ⟨_, _, _, _⟩; rfl) | (rcases s with ⟨_, _, _, _, _⟩; rfl)))
    · simp (maxSteps := 900000) (disch := omega) only [go_sem, Nat.reduceEqDiff, ↓reduceIte, reduceCtorEq, Nat.reduceAdd, Nat.reduceMul, Int.reduceToNat, List.reduceReplicate, Nat.reduceLeDiff, Nat.reduceLT, Int.reduceLT, Int.reduceLE, Int.reduceEq]; simp
    rintro i ⟨hi, ha⟩
    replace hi : i ≤ l.length := hi
    replace ha : ∀ j, j < i → longL (nth l j) = false := ha
    by_cases hil : i < l.length
    · repeat' (first | with_reducible refine inw ?_ | simp (maxSteps := 900000) (disch := omega) only [go_sem, Nat.reduceEqDiff, ↓reduceIte, reduceCtorEq, Nat.reduceAdd, Nat.reduceMul, Int.reduceToNat, List.reduceReplicate, Nat.reduceLeDiff, Nat.reduceLT, Int.reduceLT, Int.reduceLE, Int.reduceEq] | with_reducible refine giv_intro fun _h => ?_ | with_reducible refine alt_intro ?_ fun _h => ?_ | with_reducible refine pickD_nil ?_ | (with_reducible refine brc (fun _h => ?_) fun _h => ?_) <;> first | (exfalso; omega) | simp only [decide_eq_false _h] | simp only [(_h : (_ : Bool) = _)] | simp only [decide_eq_true _h] | skip)
      · rw [if_pos (any_yes hil (by rw [longL]; simp; omega))]
      · (refine loopC hS [0, 3] (by simp only [go_sem, Nat.reduceEqDiff, ↓reduceIte, reduceCtorEq, Nat.reduceAdd, Nat.reduceMul, Int.reduceToNat, List.reduceReplicate, Nat.reduceLeDiff, Nat.reduceLT, Int.reduceLT, Int.reduceLE, Int.reduceEq]; try rfl) (fun (k : Nat) => [(4, intA k)]) (fun (k : Nat) => []) (fun (k : Nat) => k ≤ (nth l i).1.length ∧ ∀ j, j < k → decide (400 < (nth (nth l i).1 j).size) = false) (fun (k : Nat) => (nth l i).1.length - k) (0) ?h02 ?hn2 ?rd2; case hn2 => (intro s; first | rfl | (rcases s with ⟨_, _⟩; rfl) | (rcases s with ⟨_, _, _⟩; rfl) | (rcases s with ⟨_, _, _, _⟩; rfl) | (rcases s with ⟨_, _, _, _, _⟩; rfl)))
        · simp (maxSteps := 900000) (disch := omega) only [go_sem, Nat.reduceEqDiff, ↓reduceIte, reduceCtorEq, Nat.reduceAdd, Nat.reduceMul, Int.reduceToNat, List.reduceReplicate, Nat.reduceLeDiff, Nat.reduceLT, Int.reduceLT, Int.reduceLE, Int.reduceEq]; simp
        rintro k ⟨hk, hb⟩
        replace hk : k ≤ (nth l i).1.length := hk
        replace hb : ∀ j, j < k → decide (400 < (nth (nth l i).1 j).size) = false := hb
        by_cases hkl : k < (nth l i).1.length
        · repeat' (first | with_reducible refine inw ?_ | simp (maxSteps := 900000) (disch := omega) only [go_sem, Nat.reduceEqDiff, ↓reduceIte, reduceCtorEq, Nat.reduceAdd, Nat.reduceMul, Int.reduceToNat, List.reduceReplicate, Nat.reduceLeDiff, Nat.reduceLT, Int.reduceLT, Int.reduceLE, Int.reduceEq] | with_reducible refine giv_intro fun _h => ?_ | with_reducible refine alt_intro ?_ fun _h => ?_ | with_reducible refine pickD_nil ?_ | (with_reducible refine brc (fun _h => ?_) fun _h => ?_) <;> first | (exfalso; omega) | simp only [decide_eq_false _h] | simp only [(_h : (_ : Bool) = _)] | simp only [decide_eq_true _h] | skip)
          · rw [if_pos (any_yes hil (by rw [longL, any_yes (p := fun s => decide (400 < s.size)) hkl (decide_eq_true (by omega))]; simp))]
          · exact ⟨k + 1, ⟨by omega, by omega, allN_step hb (decide_eq_false (by omega))⟩, by omega⟩
        · repeat' (first | with_reducible refine inw ?_ | simp (maxSteps := 900000) (disch := omega) only [go_sem, Nat.reduceEqDiff, ↓reduceIte, reduceCtorEq, Nat.reduceAdd, Nat.reduceMul, Int.reduceToNat, List.reduceReplicate, Nat.reduceLeDiff, Nat.reduceLT, Int.reduceLT, Int.reduceLE, Int.reduceEq] | with_reducible refine giv_intro fun _h => ?_ | with_reducible refine alt_intro ?_ fun _h => ?_ | with_reducible refine pickD_nil ?_ | (with_reducible refine brc (fun _h => ?_) fun _h => ?_) <;> first | (exfalso; omega) | simp only [decide_eq_false _h] | simp only [(_h : (_ : Bool) = _)] | simp only [decide_eq_true _h] | skip)
          exact ⟨i + 1, ⟨by omega, by omega, allN_step ha (by rw [longL, any_no fun j hj => hb j (by omega)]; simp; omega)⟩, by omega⟩
    · rw [if_neg (by rw [any_no fun j hj => ha j (by omega)]; simp)]
      repeat' (first | with_reducible refine inw ?_ | simp (maxSteps := 900000) (disch := omega) only [go_sem, Nat.reduceEqDiff, ↓reduceIte, reduceCtorEq, Nat.reduceAdd, Nat.reduceMul, Int.reduceToNat, List.reduceReplicate, Nat.reduceLeDiff, Nat.reduceLT, Int.reduceLT, Int.reduceLE, Int.reduceEq] | with_reducible refine giv_intro fun _h => ?_ | with_reducible refine alt_intro ?_ fun _h => ?_ | with_reducible refine pickD_nil ?_ | (with_reducible refine brc (fun _h => ?_) fun _h => ?_) <;> first | (exfalso; omega) | simp only [decide_eq_false _h] | simp only [(_h : (_ : Bool) = _)] | simp only [decide_eq_true _h] | skip)
      (refine loopC hS [0] (by simp only [go_sem, Nat.reduceEqDiff, ↓reduceIte, reduceCtorEq, Nat.reduceAdd, Nat.reduceMul, Int.reduceToNat, List.reduceReplicate, Nat.reduceLeDiff, Nat.reduceLT, Int.reduceLT, Int.reduceLE, Int.reduceEq]; try rfl) (fun (i : Nat) => [(5, intA i)]) (fun (i : Nat) => []) (fun (i : Nat) => i ≤ l.length ∧ ∀ j, j < i → fitL (nth l j) = true) (fun (i : Nat) => l.length - i) (0) ?h03 ?hn3 ?rd3; case hn3 => (intro s; first | rfl | (rcases s with ⟨_, _⟩; rfl) | (rcases s with ⟨_, _, _⟩; rfl) | (rcases s with ⟨_, _, _, _⟩; rfl) | (rcases s with ⟨_, _, _, _, _⟩; rfl)))
      · simp (maxSteps := 900000) (disch := omega) only [go_sem, Nat.reduceEqDiff, ↓reduceIte, reduceCtorEq, Nat.reduceAdd, Nat.reduceMul, Int.reduceToNat, List.reduceReplicate, Nat.reduceLeDiff, Nat.reduceLT, Int.reduceLT, Int.reduceLE, Int.reduceEq]; simp
      rintro i ⟨hi, hb⟩
      replace hi : i ≤ l.length := hi
      replace hb : ∀ j, j < i → fitL (nth l j) = true := hb
      by_cases hil : i < l.length
      · repeat' (first | with_reducible refine inw ?_ | simp (maxSteps := 900000) (disch := omega) only [go_sem, Nat.reduceEqDiff, ↓reduceIte, reduceCtorEq, Nat.reduceAdd, Nat.reduceMul, Int.reduceToNat, List.reduceReplicate, Nat.reduceLeDiff, Nat.reduceLT, Int.reduceLT, Int.reduceLE, Int.reduceEq] | with_reducible refine giv_intro fun _h => ?_ | with_reducible refine alt_intro ?_ fun _h => ?_ | with_reducible refine pickD_nil ?_ | (with_reducible refine brc (fun _h => ?_) fun _h => ?_) <;> first | (exfalso; omega) | simp only [decide_eq_false _h] | simp only [(_h : (_ : Bool) = _)] | simp only [decide_eq_true _h] | skip)
        all_goals first
          | (refine ⟨i + 1, ⟨by omega, by omega, allN_step hb ?_⟩, by omega⟩; rw [fitL]; simp; omega)
          | (rw [if_neg (by rw [all_no (p := fitL) hil (by rw [fitL]; simp; omega)]; simp)]; done)
      · rw [if_pos (all_nth fun j hj => hb j (by omega))]
        repeat' (first | with_reducible refine inw ?_ | simp (maxSteps := 900000) (disch := omega) only [go_sem, Nat.reduceEqDiff, ↓reduceIte, reduceCtorEq, Nat.reduceAdd, Nat.reduceMul, Int.reduceToNat, List.reduceReplicate, Nat.reduceLeDiff, Nat.reduceLT, Int.reduceLT, Int.reduceLE, Int.reduceEq] | with_reducible refine giv_intro fun _h => ?_ | with_reducible refine alt_intro ?_ fun _h => ?_ | with_reducible refine pickD_nil ?_ | (with_reducible refine brc (fun _h => ?_) fun _h => ?_) <;> first | (exfalso; omega) | simp only [decide_eq_false _h] | simp only [(_h : (_ : Bool) = _)] | simp only [decide_eq_true _h] | skip)
        (refine loopC hS [0] (by simp only [go_sem, Nat.reduceEqDiff, ↓reduceIte, reduceCtorEq, Nat.reduceAdd, Nat.reduceMul, Int.reduceToNat, List.reduceReplicate, Nat.reduceLeDiff, Nat.reduceLT, Int.reduceLT, Int.reduceLE, Int.reduceEq]; try rfl) (fun (i : Nat) => [(6, intA i)]) (fun (i : Nat) => []) (fun (i : Nat) => i ≤ l.length ∧ ∀ j, j < i → nmL (nth l j) = true) (fun (i : Nat) => l.length - i) (0) ?h04 ?hn4 ?rd4; case hn4 => (intro s; first | rfl | (rcases s with ⟨_, _⟩; rfl) | (rcases s with ⟨_, _, _⟩; rfl) | (rcases s with ⟨_, _, _, _⟩; rfl) | (rcases s with ⟨_, _, _, _, _⟩; rfl)))
        · simp (maxSteps := 900000) (disch := omega) only [go_sem, Nat.reduceEqDiff, ↓reduceIte, reduceCtorEq, Nat.reduceAdd, Nat.reduceMul, Int.reduceToNat, List.reduceReplicate, Nat.reduceLeDiff, Nat.reduceLT, Int.reduceLT, Int.reduceLE, Int.reduceEq]; simp
        rintro i ⟨hi, hc⟩
        replace hi : i ≤ l.length := hi
        replace hc : ∀ j, j < i → nmL (nth l j) = true := hc
        by_cases hil2 : i < l.length
        · have f1 := hb i (by omega)
          have hm := hs _ (nth_mem hil2)
          have f0 := f1
          rw [fitL] at f0
          simp only [Bool.and_eq_true, decide_eq_true_eq] at f0
          repeat' (first | with_reducible refine inw ?_ | simp (maxSteps := 900000) (disch := omega) only [go_sem, Nat.reduceEqDiff, ↓reduceIte, reduceCtorEq, Nat.reduceAdd, Nat.reduceMul, Int.reduceToNat, List.reduceReplicate, Nat.reduceLeDiff, Nat.reduceLT, Int.reduceLT, Int.reduceLE, Int.reduceEq] | with_reducible refine giv_intro fun _h => ?_ | with_reducible refine alt_intro ?_ fun _h => ?_ | with_reducible refine pickD_nil ?_ | (with_reducible refine brc (fun _h => ?_) fun _h => ?_) <;> first | (exfalso; omega) | simp only [decide_eq_false _h] | simp only [(_h : (_ : Bool) = _)] | simp only [decide_eq_true _h] | skip)
          (refine loopC hS [0, 6] (by simp only [go_sem, Nat.reduceEqDiff, ↓reduceIte, reduceCtorEq, Nat.reduceAdd, Nat.reduceMul, Int.reduceToNat, List.reduceReplicate, Nat.reduceLeDiff, Nat.reduceLT, Int.reduceLT, Int.reduceLE, Int.reduceEq]; try rfl) (fun (k : Nat) => [(7, intA k)]) (fun (k : Nat) => []) (fun (k : Nat) => k ≤ (nth l i).1.length ∧ ∀ j, j < k → nameB (nth (nth l i).2.1 j) = true ∧ nameB (nth (nth l i).2.2 j) = true) (fun (k : Nat) => (nth l i).1.length - k) (0) ?h05 ?hn5 ?rd5; case hn5 => (intro s; first | rfl | (rcases s with ⟨_, _⟩; rfl) | (rcases s with ⟨_, _, _⟩; rfl) | (rcases s with ⟨_, _, _, _⟩; rfl) | (rcases s with ⟨_, _, _, _, _⟩; rfl)))
          · simp (maxSteps := 900000) (disch := omega) only [go_sem, Nat.reduceEqDiff, ↓reduceIte, reduceCtorEq, Nat.reduceAdd, Nat.reduceMul, Int.reduceToNat, List.reduceReplicate, Nat.reduceLeDiff, Nat.reduceLT, Int.reduceLT, Int.reduceLE, Int.reduceEq]; simp
          rintro k ⟨hk, hd⟩
          replace hk : k ≤ (nth l i).1.length := hk
          replace hd : ∀ j, j < k → nameB (nth (nth l i).2.1 j) = true ∧ nameB (nth (nth l i).2.2 j) = true := hd
          by_cases hkl : k < (nth l i).1.length
          · have c1 := IsName_ok (nth (nth l i).2.1 k) (hm.2.1 _ (nth_mem (by omega)))
            have c2 := IsName_ok (nth (nth l i).2.2 k) (hm.2.2 _ (nth_mem (by omega)))
            have no : ¬(nameB (nth (nth l i).2.1 k) = true ∧ nameB (nth (nth l i).2.2 k) = true) → (1 : Int) = if l.all nmL = true then 0 else 1 := fun h => by
              rw [all_no (p := nmL) hil2 (by rw [← Bool.not_eq_true, nm_all f1]; exact fun h2 => h (h2 k hkl))]; rfl
            repeat' (first | with_reducible refine inw ?_ | simp (maxSteps := 900000) (disch := omega) only [go_sem, Nat.reduceEqDiff, ↓reduceIte, reduceCtorEq, Nat.reduceAdd, Nat.reduceMul, Int.reduceToNat, List.reduceReplicate, Nat.reduceLeDiff, Nat.reduceLT, Int.reduceLT, Int.reduceLE, Int.reduceEq] | (with_reducible apply call (c1)); (focus simp (maxSteps := 900000) (disch := omega) only [go_sem, Nat.reduceEqDiff, ↓reduceIte, reduceCtorEq, Nat.reduceAdd, Nat.reduceMul, Int.reduceToNat, List.reduceReplicate, Nat.reduceLeDiff, Nat.reduceLT, Int.reduceLT, Int.reduceLE, Int.reduceEq] <;> rfl) | (with_reducible apply call (c2)); (focus simp (maxSteps := 900000) (disch := omega) only [go_sem, Nat.reduceEqDiff, ↓reduceIte, reduceCtorEq, Nat.reduceAdd, Nat.reduceMul, Int.reduceToNat, List.reduceReplicate, Nat.reduceLeDiff, Nat.reduceLT, Int.reduceLT, Int.reduceLE, Int.reduceEq] <;> rfl) | with_reducible refine giv_intro fun _h => ?_ | with_reducible refine alt_intro ?_ fun _h => ?_ | with_reducible refine pickD_nil ?_ | (with_reducible refine brc (fun _h => ?_) fun _h => ?_) <;> first | (exfalso; omega) | simp only [decide_eq_false _h] | simp only [(_h : (_ : Bool) = _)] | simp only [decide_eq_true _h] | skip)
            all_goals first
              | exact ⟨k + 1, ⟨by omega, by omega, allN_step hd ⟨by assumption, by assumption⟩⟩, by omega⟩
              | (refine no ?_; simp [*]; done)
          · repeat' (first | with_reducible refine inw ?_ | simp (maxSteps := 900000) (disch := omega) only [go_sem, Nat.reduceEqDiff, ↓reduceIte, reduceCtorEq, Nat.reduceAdd, Nat.reduceMul, Int.reduceToNat, List.reduceReplicate, Nat.reduceLeDiff, Nat.reduceLT, Int.reduceLT, Int.reduceLE, Int.reduceEq] | with_reducible refine giv_intro fun _h => ?_ | with_reducible refine alt_intro ?_ fun _h => ?_ | with_reducible refine pickD_nil ?_ | (with_reducible refine brc (fun _h => ?_) fun _h => ?_) <;> first | (exfalso; omega) | simp only [decide_eq_false _h] | simp only [(_h : (_ : Bool) = _)] | simp only [decide_eq_true _h] | skip)
            exact ⟨i + 1, ⟨by omega, by omega, allN_step hc ((nm_all f1).2 fun j hj => hd j (by omega))⟩, by omega⟩
        · rw [if_pos (all_nth fun j hj => hc j (by omega))]
          repeat' (first | with_reducible refine inw ?_ | simp (maxSteps := 900000) (disch := omega) only [go_sem, Nat.reduceEqDiff, ↓reduceIte, reduceCtorEq, Nat.reduceAdd, Nat.reduceMul, Int.reduceToNat, List.reduceReplicate, Nat.reduceLeDiff, Nat.reduceLT, Int.reduceLT, Int.reduceLE, Int.reduceEq] | with_reducible refine giv_intro fun _h => ?_ | with_reducible refine alt_intro ?_ fun _h => ?_ | with_reducible refine pickD_nil ?_ | (with_reducible refine brc (fun _h => ?_) fun _h => ?_) <;> first | (exfalso; omega) | simp only [decide_eq_false _h] | simp only [(_h : (_ : Bool) = _)] | simp only [decide_eq_true _h] | skip)
end Go.Proofs.Ytapgimibdamjoaa.Ev

/- Which books there are: both alike. -/
import Derived.Test.YtfihpbeihlpfcaaZFnOg
set_option linter.unusedVariables false
set_option linter.unusedSimpArgs false
namespace Go.Proofs.Ytfihpbeihlpfcaa.Ev
open Go Go.Proofs

/-- ablaut/ablautref24.isBook: 1 parameters, 0 captured -/
def s52 : SC := .seq (.reg [o1 1 (.box 37 5 (.t 0)),
   o1 2 (.mv (cB false))])
  (.seq (.seq (.reg [o1 7 (.faddr 0 (.t 1)),
     o1 8 (.load none (.t 7)),
     o1 9 (.bin .lss (.t 8) (cI 1)),
     o1 10 (.mv (.t 9)),
     oF 11 (.faddr 0 (.t 1)) 10,
     oF 12 (.load none (.t 11)) 10,
     oF 13 (.bin .gtr (.t 12) (cI 60)) 10,
     o1 14 (.pick (.t 10) (cB true) (.t 13)),
     o1 15 (.mv (.t 14)),
     oF 16 (.faddr 1 (.t 1)) 15,
     oF 17 (.load none (.t 16)) 15,
     oF 18 (.bin .lss (.t 17) (cI 1)) 15,
     o1 19 (.pick (.t 15) (cB true) (.t 18)),
     o1 20 (.mv (.t 19)),
     oF 21 (.faddr 1 (.t 1)) 20,
     oF 22 (.load none (.t 21)) 20,
     oF 23 (.bin .gtr (.t 22) (cI 60)) 20,
     o1 24 (.pick (.t 20) (cB true) (.t 23))])
    (.cond (.t 24) (.seq (.reg [o1 2 (.mv (cB false))])
      (.ret)) (.skip)))
   (.seq (.seq (.reg [o1 3 (.mv (cI 0))])
     (.block 0 (.loop (.seq (.seq (.reg [o1 25 (.mv (.t 3)),
          o1 26 (.faddr 2 (.t 1)),
          o1 27 (.load none (.t 26)),
          o1 28 (.lenL (.t 27)),
          o1 29 (.bin .lss (.t 25) (.t 28))])
         (.cond (.t 29) (.skip) (.exit 0)))
        (.seq (.block 1 (.seq (.regC [(false, o1 32 (.faddr 2 (.t 1))),
            (false, o1 33 (.load none (.t 32))),
            (false, o1 34 (.mv (.t 3))),
            (false, o1 35 (.iaddr 2 (.t 33) (.t 34))),
            (false, o1 36 (.load (some 2) (.t 35))),
            (true, o1 37 (.call (.f 87) [(.t 36)])),
            (false, o1 38 (.un .not (.t 37))),
            (false, o1 39 (.mv (.t 38))),
            (false, oF 40 (.mv (.t 3)) 39),
            (false, oF 41 (.bin .gtr (.t 40) (cI 0)) 39),
            (false, oF 42 (.mv (.t 41)) 39),
            (false, oT 43 (.faddr 2 (.t 1)) 42),
            (false, oT 44 (.load none (.t 43)) 42),
            (false, oT 45 (.mv (.t 3)) 42),
            (false, oT 46 (.bin .sub (.t 45) (cI 1)) 42),
            (false, oT 47 (.iaddr 2 (.t 44) (.t 46)) 42),
            (false, oT 48 (.faddr 0 (.t 47)) 42),
            (false, oT 49 (.load none (.t 48)) 42),
            (false, oT 50 (.faddr 2 (.t 1)) 42),
            (false, oT 51 (.load none (.t 50)) 42),
            (false, oT 52 (.mv (.t 3)) 42),
            (false, oT 53 (.iaddr 2 (.t 51) (.t 52)) 42),
            (false, oT 54 (.faddr 0 (.t 53)) 42),
            (false, oT 55 (.load none (.t 54)) 42),
            (true, oT 56 (.call (.f 58) [(.t 49), (.t 55)]) 42),
            (false, oT 57 (.bin .geq (.t 56) (cI 0)) 42),
            (false, oF 58 (.pick (.t 42) (.t 57) (cB false)) 39),
            (false, o1 59 (.pick (.t 39) (cB true) (.t 58)))])
           (.cond (.t 59) (.seq (.reg [o1 2 (.mv (cB false))])
             (.ret)) (.skip))))
         (.reg [o1 30 (.mv (.t 3)),
          o1 31 (.bin .add (.t 30) (cI 1)),
          o1 3 (.mv (.t 31))]))))))
    (.seq (.seq (.reg [o1 4 (.mv (cI 0))])
      (.block 2 (.loop (.seq (.seq (.reg [o1 60 (.mv (.t 4)),
           o1 61 (.faddr 3 (.t 1)),
           o1 62 (.load none (.t 61)),
           o1 63 (.lenL (.t 62)),
           o1 64 (.bin .lss (.t 60) (.t 63))])
          (.cond (.t 64) (.skip) (.exit 2)))
         (.seq (.block 3 (.seq (.regC [(false, o1 67 (.faddr 3 (.t 1))),
             (false, o1 68 (.load none (.t 67))),
             (false, o1 69 (.mv (.t 4))),
             (false, o1 70 (.iaddr 2 (.t 68) (.t 69))),
             (false, o1 71 (.load (some 2) (.t 70))),
             (true, o1 72 (.call (.f 88) [(.t 71)])),
             (false, o1 73 (.un .not (.t 72))),
             (false, o1 74 (.mv (.t 73))),
             (false, oF 75 (.mv (.t 4)) 74),
             (false, oF 76 (.bin .gtr (.t 75) (cI 0)) 74),
             (false, oF 77 (.mv (.t 76)) 74),
             (false, oT 78 (.faddr 3 (.t 1)) 77),
             (false, oT 79 (.load none (.t 78)) 77),
             (false, oT 80 (.mv (.t 4)) 77),
             (false, oT 81 (.bin .sub (.t 80) (cI 1)) 77),
             (false, oT 82 (.iaddr 2 (.t 79) (.t 81)) 77),
             (false, oT 83 (.faddr 0 (.t 82)) 77),
             (false, oT 84 (.load none (.t 83)) 77),
             (false, oT 85 (.faddr 3 (.t 1)) 77),
             (false, oT 86 (.load none (.t 85)) 77),
             (false, oT 87 (.mv (.t 4)) 77),
             (false, oT 88 (.iaddr 2 (.t 86) (.t 87)) 77),
             (false, oT 89 (.faddr 0 (.t 88)) 77),
             (false, oT 90 (.load none (.t 89)) 77),
             (true, oT 91 (.call (.f 58) [(.t 84), (.t 90)]) 77),
             (false, oT 92 (.bin .geq (.t 91) (cI 0)) 77),
             (false, oF 93 (.pick (.t 77) (.t 92) (cB false)) 74),
             (false, o1 94 (.pick (.t 74) (cB true) (.t 93)))])
            (.cond (.t 94) (.seq (.reg [o1 2 (.mv (cB false))])
              (.ret)) (.skip))))
          (.reg [o1 65 (.mv (.t 4)),
           o1 66 (.bin .add (.t 65) (cI 1)),
           o1 4 (.mv (.t 66))]))))))
     (.seq (.seq (.reg [o1 5 (.mv (cI 0))])
       (.block 4 (.loop (.seq (.seq (.reg [o1 95 (.mv (.t 5)),
            o1 96 (.faddr 4 (.t 1)),
            o1 97 (.load none (.t 96)),
            o1 98 (.lenL (.t 97)),
            o1 99 (.bin .lss (.t 95) (.t 98))])
           (.cond (.t 99) (.skip) (.exit 4)))
          (.seq (.block 5 (.seq (.reg [o1 102 (.faddr 4 (.t 1)),
              o1 103 (.load none (.t 102)),
              o1 104 (.mv (.t 5)),
              o1 105 (.iaddr 4 (.t 103) (.t 104)),
              o1 106 (.load (some 4) (.t 105)),
              o1 6 (.alloc 66 4 [(.slice none 0 0), (.slice none 0 0), (.slice none 0 0), (.int .i64 0)]),
              o0 (.store 4 (.t 6) (.t 106))])
             (.seq (.reg [o1 107 (.faddr 3 (.t 6)),
               o1 108 (.load none (.t 107)),
               o1 109 (.bin .lss (.t 108) (cI 1)),
               o1 110 (.mv (.t 109)),
               oF 111 (.faddr 3 (.t 6)) 110,
               oF 112 (.load none (.t 111)) 110,
               oF 113 (.faddr 0 (.t 6)) 110,
               oF 114 (.load none (.t 113)) 110,
               oF 115 (.lenL (.t 114)) 110,
               oF 116 (.bin .geq (.t 112) (.t 115)) 110,
               o1 117 (.pick (.t 110) (cB true) (.t 116))])
              (.cond (.t 117) (.seq (.reg [o1 2 (.mv (cB false))])
                (.ret)) (.skip)))))
           (.reg [o1 100 (.mv (.t 5)),
            o1 101 (.bin .add (.t 100) (cI 1)),
            o1 5 (.mv (.t 101))]))))))
      (.seq (.reg [o1 2 (.mv (cB true))])
       (.ret))))))
theorem s52_ok : lookF Try.prog 52 = some (s52, 118, [.tmp 2]) := by kernel_rfl
set_option maxHeartbeats 1000000 in
theorem isBook_ok (h : Book) (hwp : ∀ p ∈ h.2.2.1, p.1.length ≤ 60) (hwx : ∀ p ∈ h.2.2.2.1, p.1.length ≤ 60) : Fn P 52 [bkA h] (boolA (bookB h)) := by
  have hbk : bookB h = (edgB h && (List.range h.2.2.1.length).all (patsI h.2.2.1) && (List.range h.2.2.2.1.length).all (brksI h.2.2.2.1) && (List.range h.2.2.2.2.length).all fun i => trnB (nth h.2.2.2.2 i)) := rfl
  have hed : edgB h = (decide (1 ≤ h.1) && decide (h.1 ≤ 60) && decide (1 ≤ h.2.1) && decide (h.2.1 ≤ 60)) := rfl
  generalize bookB h = B at *
  obtain ⟨lf, rt, ps, xs, ts⟩ := h
  dsimp only at *
  have noE : edgB (lf, rt, ps, xs, ts) = false → B = false := fun e => by rw [hbk, e]; rfl
  (refine fn_look s52_ok (by simp) (by intro k; simp only [go_sem, Nat.reduceEqDiff, ↓reduceIte, reduceCtorEq, Nat.reduceAdd, Nat.reduceMul, Int.reduceToNat, List.reduceReplicate, Nat.reduceLeDiff, Nat.reduceLT, Int.reduceLT, Int.reduceLE, Int.reduceEq]) fun S hS => cwp_sound _ _ _ _ ?_; simp (maxSteps := 900000) (disch := omega) only [s52, go_sem, Nat.reduceEqDiff, ↓reduceIte, reduceCtorEq, Nat.reduceAdd, Nat.reduceMul, Int.reduceToNat, List.reduceReplicate, Nat.reduceLeDiff, Nat.reduceLT, Int.reduceLT, Int.reduceLE, Int.reduceEq])
  repeat' (first | with_reducible refine inw ?_ | simp (maxSteps := 900000) (disch := omega) only [go_sem, Nat.reduceEqDiff, ↓reduceIte, reduceCtorEq, Nat.reduceAdd, Nat.reduceMul, Int.reduceToNat, List.reduceReplicate, Nat.reduceLeDiff, Nat.reduceLT, Int.reduceLT, Int.reduceLE, Int.reduceEq] | with_reducible refine pickB_f ?_ | with_reducible refine giv_intro fun _h => ?_ | with_reducible refine alt_intro ?_ fun _h => ?_ | with_reducible refine pickD_nil ?_ | (with_reducible refine brc (fun _h => ?_) fun _h => ?_) <;> first | (exfalso; omega) | simp only [decide_eq_false _h] | simp only [(_h : (_ : Bool) = _)] | simp only [decide_eq_true _h] | skip)
  all_goals try (refine (noE ?_).symm; rw [hed]; simp; omega)
  have yE : edgB (lf, rt, ps, xs, ts) = true := by rw [hed]; simp; omega
  rw [yE, Bool.true_and] at hbk
  clear noE hed yE
  have noP : (List.range ps.length).all (patsI ps) = false → B = false := fun e => by rw [hbk, e]; rfl
  have noX : (List.range xs.length).all (brksI xs) = false → B = false := fun e => by rw [hbk, e]; simp
  have noT : ((List.range ts.length).all fun i => trnB (nth ts i)) = false → B = false := fun e => by rw [hbk, e]; simp
  (refine loopC hS [1] (by simp only [go_sem, Nat.reduceEqDiff, ↓reduceIte, reduceCtorEq, Nat.reduceAdd, Nat.reduceMul, Int.reduceToNat, List.reduceReplicate, Nat.reduceLeDiff, Nat.reduceLT, Int.reduceLT, Int.reduceLE, Int.reduceEq]; try rfl) (fun (i : Nat) => [(3, intA i)]) (fun (i : Nat) => [some (.row 37 5 [intA lf, intA rt, sl ps, sl xs, sl ts])]) (fun (i : Nat) => i ≤ ps.length ∧ ∀ j, j < i → patsI ps j = true) (fun (i : Nat) => ps.length - i) (0) ?_ (by intro s; first | (simp only [List.length_cons, List.length_nil]; done) | rfl | (rcases s with ⟨_, _⟩; rfl) | (rcases s with ⟨_, _, _⟩; rfl) | (rcases s with ⟨_, _, _, _⟩; rfl) | (rcases s with ⟨_, _, _, _, _⟩; rfl)) ?_)
  · simp (maxSteps := 900000) (disch := omega) only [go_sem, Nat.reduceEqDiff, ↓reduceIte, reduceCtorEq, Nat.reduceAdd, Nat.reduceMul, Int.reduceToNat, List.reduceReplicate, Nat.reduceLeDiff, Nat.reduceLT, Int.reduceLT, Int.reduceLE, Int.reduceEq]
    exact ⟨Nat.zero_le _, fun j hj => absurd hj (Nat.not_lt_zero _)⟩
  rintro i ⟨hi, hI⟩
  replace hi : i ≤ ps.length := hi
  replace hI : ∀ j, j < i → patsI ps j = true := hI
  by_cases hil : i < ps.length
  · have hpi : patsI ps i = (patB (nth ps i) && (decide (i = 0) || decide (orderL (nth ps (i - 1)).1 (nth ps i).1 < 0))) := rfl
    have no := fun e : patsI ps i = false => noP (range_no hil e)
    have hl1 := hwp _ (nth_mem hil)
    have d1 : Fn P 87 [.agg [sl (nth ps i).1, sl (nth ps i).2]] (boolA (patB (nth ps i))) := rIsPat_ok (nth ps i) (by omega)
    have d2 := Order_ok (nth ps (i - 1)).1 (nth ps i).1
    have e1 : ((i : Int) - 1).toNat = i - 1 := by omega
    have eC : ((cellsL ps).drop (i * 2)).take 2 = [sl (nth ps i).1, sl (nth ps i).2] := by rw [cellsL_drop, nth_drop hil]; rfl
    have eD : (cellsL ps)[(i - 1) * 2]? = some (sl (nth ps (i - 1)).1) := cells2_0 (show i - 1 < ps.length by omega)
    have eF : (cellsL ps)[i * 2]? = some (sl (nth ps i).1) := cells2_0 hil
    have stp := fun e : patsI ps i = true => step_all hI e
    generalize patsI ps i = z at *
    generalize patB (nth ps i) = c at *
    generalize orderL (nth ps (i - 1)).1 (nth ps i).1 = o at *
    clear hbk
    repeat' (first | with_reducible refine inw ?_ | simp (maxSteps := 900000) (disch := omega) only [go_sem, Nat.reduceEqDiff, ↓reduceIte, reduceCtorEq, Nat.reduceAdd, Nat.reduceMul, Int.reduceToNat, List.reduceReplicate, Nat.reduceLeDiff, Nat.reduceLT, Int.reduceLT, Int.reduceLE, Int.reduceEq, e1, eC, eD, eF] | (with_reducible apply call_D (d1)); (focus simp (maxSteps := 900000) (disch := omega) only [go_sem, Nat.reduceEqDiff, ↓reduceIte, reduceCtorEq, Nat.reduceAdd, Nat.reduceMul, Int.reduceToNat, List.reduceReplicate, Nat.reduceLeDiff, Nat.reduceLT, Int.reduceLT, Int.reduceLE, Int.reduceEq, e1, eC, eD, eF] <;> rfl) | (with_reducible apply call_D (d2)); (focus simp (maxSteps := 900000) (disch := omega) only [go_sem, Nat.reduceEqDiff, ↓reduceIte, reduceCtorEq, Nat.reduceAdd, Nat.reduceMul, Int.reduceToNat, List.reduceReplicate, Nat.reduceLeDiff, Nat.reduceLT, Int.reduceLT, Int.reduceLE, Int.reduceEq, e1, eC, eD, eF] <;> rfl) | with_reducible refine pickB_f ?_ | with_reducible refine giv_intro fun _h => ?_ | with_reducible refine alt_intro ?_ fun _h => ?_ | with_reducible refine pickD_nil ?_ | (with_reducible refine brc (fun _h => ?_) fun _h => ?_) <;> first | (exfalso; omega) | simp only [decide_eq_false _h] | simp only [(_h : (_ : Bool) = _)] | simp only [decide_eq_true _h] | skip)
    all_goals first
      | (refine (no ?_).symm; rw [hpi]; clear hpi no stp; subst_vars; first | (simp; done) | (simp; omega))
      | (refine ⟨i + 1, ⟨by omega, by omega, stp ?_⟩, by omega⟩; rw [hpi]; clear hpi no stp; subst_vars; first | (simp; done) | (simp; omega))
  obtain rfl : i = ps.length := by omega
  have yP : (List.range ps.length).all (patsI ps) = true := range_yes hI
  rw [yP, Bool.true_and] at hbk
  clear noP hI yP
  repeat' (first | with_reducible refine inw ?_ | simp (maxSteps := 900000) (disch := omega) only [go_sem, Nat.reduceEqDiff, ↓reduceIte, reduceCtorEq, Nat.reduceAdd, Nat.reduceMul, Int.reduceToNat, List.reduceReplicate, Nat.reduceLeDiff, Nat.reduceLT, Int.reduceLT, Int.reduceLE, Int.reduceEq] | with_reducible refine pickB_f ?_ | with_reducible refine giv_intro fun _h => ?_ | with_reducible refine alt_intro ?_ fun _h => ?_ | with_reducible refine pickD_nil ?_ | (with_reducible refine brc (fun _h => ?_) fun _h => ?_) <;> first | (exfalso; omega) | simp only [decide_eq_false _h] | simp only [(_h : (_ : Bool) = _)] | simp only [decide_eq_true _h] | skip)
  (refine loopC hS [1] (by simp only [go_sem, Nat.reduceEqDiff, ↓reduceIte, reduceCtorEq, Nat.reduceAdd, Nat.reduceMul, Int.reduceToNat, List.reduceReplicate, Nat.reduceLeDiff, Nat.reduceLT, Int.reduceLT, Int.reduceLE, Int.reduceEq]; try rfl) (fun (i : Nat) => [(4, intA i)]) (fun (i : Nat) => [some (.row 37 5 [intA lf, intA rt, sl ps, sl xs, sl ts])]) (fun (i : Nat) => i ≤ xs.length ∧ ∀ j, j < i → brksI xs j = true) (fun (i : Nat) => xs.length - i) (0) ?_ (by intro s; first | (simp only [List.length_cons, List.length_nil]; done) | rfl | (rcases s with ⟨_, _⟩; rfl) | (rcases s with ⟨_, _, _⟩; rfl) | (rcases s with ⟨_, _, _, _⟩; rfl) | (rcases s with ⟨_, _, _, _, _⟩; rfl)) ?_)
  · simp (maxSteps := 900000) (disch := omega) only [go_sem, Nat.reduceEqDiff, ↓reduceIte, reduceCtorEq, Nat.reduceAdd, Nat.reduceMul, Int.reduceToNat, List.reduceReplicate, Nat.reduceLeDiff, Nat.reduceLT, Int.reduceLT, Int.reduceLE, Int.reduceEq]
    exact ⟨Nat.zero_le _, fun j hj => absurd hj (Nat.not_lt_zero _)⟩
  rintro i ⟨hi, hI⟩
  replace hi : i ≤ xs.length := hi
  replace hI : ∀ j, j < i → brksI xs j = true := hI
  by_cases hil : i < xs.length
  · have hpi : brksI xs i = (placesB (nth xs i).2 (nth xs i).1.length && (decide (i = 0) || decide (orderL (nth xs (i - 1)).1 (nth xs i).1 < 0))) := rfl
    have no := fun e : brksI xs i = false => noX (range_no hil e)
    have d1 : Fn P 88 [.agg [sl (nth xs i).1, sl (nth xs i).2]] (boolA (placesB (nth xs i).2 (nth xs i).1.length)) := rIsPl_ok (nth xs i)
    have d2 := Order_ok (nth xs (i - 1)).1 (nth xs i).1
    have e1 : ((i : Int) - 1).toNat = i - 1 := by omega
    have eC : ((cellsL xs).drop (i * 2)).take 2 = [sl (nth xs i).1, sl (nth xs i).2] := by rw [cellsL_drop, nth_drop hil]; rfl
    have eD : (cellsL xs)[(i - 1) * 2]? = some (sl (nth xs (i - 1)).1) := cells2_0 (show i - 1 < xs.length by omega)
    have eF : (cellsL xs)[i * 2]? = some (sl (nth xs i).1) := cells2_0 hil
    have stp := fun e : brksI xs i = true => step_all hI e
    generalize brksI xs i = z at *
    generalize placesB (nth xs i).2 (nth xs i).1.length = c at *
    generalize orderL (nth xs (i - 1)).1 (nth xs i).1 = o at *
    clear hbk
    repeat' (first | with_reducible refine inw ?_ | simp (maxSteps := 900000) (disch := omega) only [go_sem, Nat.reduceEqDiff, ↓reduceIte, reduceCtorEq, Nat.reduceAdd, Nat.reduceMul, Int.reduceToNat, List.reduceReplicate, Nat.reduceLeDiff, Nat.reduceLT, Int.reduceLT, Int.reduceLE, Int.reduceEq, e1, eC, eD, eF] | (with_reducible apply call_D (d1)); (focus simp (maxSteps := 900000) (disch := omega) only [go_sem, Nat.reduceEqDiff, ↓reduceIte, reduceCtorEq, Nat.reduceAdd, Nat.reduceMul, Int.reduceToNat, List.reduceReplicate, Nat.reduceLeDiff, Nat.reduceLT, Int.reduceLT, Int.reduceLE, Int.reduceEq, e1, eC, eD, eF] <;> rfl) | (with_reducible apply call_D (d2)); (focus simp (maxSteps := 900000) (disch := omega) only [go_sem, Nat.reduceEqDiff, ↓reduceIte, reduceCtorEq, Nat.reduceAdd, Nat.reduceMul, Int.reduceToNat, List.reduceReplicate, Nat.reduceLeDiff, Nat.reduceLT, Int.reduceLT, Int.reduceLE, Int.reduceEq, e1, eC, eD, eF] <;> rfl) | with_reducible refine pickB_f ?_ | with_reducible refine giv_intro fun _h => ?_ | with_reducible refine alt_intro ?_ fun _h => ?_ | with_reducible refine pickD_nil ?_ | (with_reducible refine brc (fun _h => ?_) fun _h => ?_) <;> first | (exfalso; omega) | simp only [decide_eq_false _h] | simp only [(_h : (_ : Bool) = _)] | simp only [decide_eq_true _h] | skip)
    all_goals first
      | (refine (no ?_).symm; rw [hpi]; clear hpi no stp; subst_vars; first | (simp; done) | (simp; omega))
      | (refine ⟨i + 1, ⟨by omega, by omega, stp ?_⟩, by omega⟩; rw [hpi]; clear hpi no stp; subst_vars; first | (simp; done) | (simp; omega))
  obtain rfl : i = xs.length := by omega
  have yX : (List.range xs.length).all (brksI xs) = true := range_yes hI
  rw [yX, Bool.true_and] at hbk
  clear noX hI yX
  repeat' (first | with_reducible refine inw ?_ | simp (maxSteps := 900000) (disch := omega) only [go_sem, Nat.reduceEqDiff, ↓reduceIte, reduceCtorEq, Nat.reduceAdd, Nat.reduceMul, Int.reduceToNat, List.reduceReplicate, Nat.reduceLeDiff, Nat.reduceLT, Int.reduceLT, Int.reduceLE, Int.reduceEq] | with_reducible refine pickB_f ?_ | with_reducible refine giv_intro fun _h => ?_ | with_reducible refine alt_intro ?_ fun _h => ?_ | with_reducible refine pickD_nil ?_ | (with_reducible refine brc (fun _h => ?_) fun _h => ?_) <;> first | (exfalso; omega) | simp only [decide_eq_false _h] | simp only [(_h : (_ : Bool) = _)] | simp only [decide_eq_true _h] | skip)
  (refine loopC hS [1] (by simp only [go_sem, Nat.reduceEqDiff, ↓reduceIte, reduceCtorEq, Nat.reduceAdd, Nat.reduceMul, Int.reduceToNat, List.reduceReplicate, Nat.reduceLeDiff, Nat.reduceLT, Int.reduceLT, Int.reduceLE, Int.reduceEq]; try rfl) (fun (i : Nat) => [(5, intA i)]) (fun (i : Nat) => [some (.row 37 5 [intA lf, intA rt, sl ps, sl xs, sl ts])]) (fun (i : Nat) => i ≤ ts.length ∧ ∀ j, j < i → trnB (nth ts j) = true) (fun (i : Nat) => ts.length - i) (0) ?_ (by intro s; first | (simp only [List.length_cons, List.length_nil]; done) | rfl | (rcases s with ⟨_, _⟩; rfl) | (rcases s with ⟨_, _, _⟩; rfl) | (rcases s with ⟨_, _, _, _⟩; rfl) | (rcases s with ⟨_, _, _, _, _⟩; rfl)) ?_)
  · simp (maxSteps := 900000) (disch := omega) only [go_sem, Nat.reduceEqDiff, ↓reduceIte, reduceCtorEq, Nat.reduceAdd, Nat.reduceMul, Int.reduceToNat, List.reduceReplicate, Nat.reduceLeDiff, Nat.reduceLT, Int.reduceLT, Int.reduceLE, Int.reduceEq]
    exact ⟨Nat.zero_le _, fun j hj => absurd hj (Nat.not_lt_zero _)⟩
  rintro i ⟨hi, hI⟩
  replace hi : i ≤ ts.length := hi
  replace hI : ∀ j, j < i → trnB (nth ts j) = true := hI
  by_cases hil : i < ts.length
  · have hpi : trnB (nth ts i) = (decide (0 < (nth ts i).1.length) && decide (1 ≤ (nth ts i).2.2.2) && decide ((nth ts i).2.2.2 < ((nth ts i).1.length : Int))) := rfl
    have no := fun e : trnB (nth ts i) = false => noT (range_no (p := fun i => trnB (nth ts i)) hil e)
    have eC : ((cellsL ts).drop (i * 4)).take 4 = [sl (nth ts i).1, sl (nth ts i).2.1, sl (nth ts i).2.2.1, intA (nth ts i).2.2.2] := by rw [cellsL_drop, nth_drop hil]; rfl
    have stp := fun e : trnB (nth ts i) = true => step_all (p := fun i => trnB (nth ts i)) hI e
    generalize trnB (nth ts i) = z at *
    clear hbk
    repeat' (first | with_reducible refine inw ?_ | simp (maxSteps := 900000) (disch := omega) only [go_sem, Nat.reduceEqDiff, ↓reduceIte, reduceCtorEq, Nat.reduceAdd, Nat.reduceMul, Int.reduceToNat, List.reduceReplicate, Nat.reduceLeDiff, Nat.reduceLT, Int.reduceLT, Int.reduceLE, Int.reduceEq, eC] | with_reducible refine pickB_f ?_ | with_reducible refine giv_intro fun _h => ?_ | with_reducible refine alt_intro ?_ fun _h => ?_ | with_reducible refine pickD_nil ?_ | (with_reducible refine brc (fun _h => ?_) fun _h => ?_) <;> first | (exfalso; omega) | simp only [decide_eq_false _h] | simp only [(_h : (_ : Bool) = _)] | simp only [decide_eq_true _h] | skip)
    all_goals first
      | (refine (no ?_).symm; rw [hpi]; clear hpi no stp; subst_vars; first | (simp; done) | (simp; omega))
      | (refine ⟨i + 1, ⟨by omega, by omega, stp ?_⟩, by omega⟩; rw [hpi]; clear hpi no stp; subst_vars; first | (simp; done) | (simp; omega))
  obtain rfl : i = ts.length := by omega
  have yT : ((List.range ts.length).all fun i => trnB (nth ts i)) = true := range_yes hI
  rw [yT] at hbk
  repeat' (first | with_reducible refine inw ?_ | simp (maxSteps := 900000) (disch := omega) only [go_sem, Nat.reduceEqDiff, ↓reduceIte, reduceCtorEq, Nat.reduceAdd, Nat.reduceMul, Int.reduceToNat, List.reduceReplicate, Nat.reduceLeDiff, Nat.reduceLT, Int.reduceLT, Int.reduceLE, Int.reduceEq] | with_reducible refine pickB_f ?_ | with_reducible refine giv_intro fun _h => ?_ | with_reducible refine alt_intro ?_ fun _h => ?_ | with_reducible refine pickD_nil ?_ | (with_reducible refine brc (fun _h => ?_) fun _h => ?_) <;> first | (exfalso; omega) | simp only [decide_eq_false _h] | simp only [(_h : (_ : Bool) = _)] | simp only [decide_eq_true _h] | skip)
  exact hbk.symm
/-- ablaut/ablautref24.Validate: 1 parameters, 0 captured -/
def s22 : SC := .seq (.reg [o1 1 (.box 37 5 (.t 0)),
   o1 2 (.mv (cI 0))])
  (.seq (.seq (.reg [o1 4 (.faddr 2 (.t 1)),
     o1 5 (.load none (.t 4)),
     o1 6 (.lenL (.t 5)),
     o1 7 (.bin .gtr (.t 6) (cI 300)),
     o1 8 (.mv (.t 7)),
     oF 9 (.faddr 3 (.t 1)) 8,
     oF 10 (.load none (.t 9)) 8,
     oF 11 (.lenL (.t 10)) 8,
     oF 12 (.bin .gtr (.t 11) (cI 300)) 8,
     o1 13 (.pick (.t 8) (cB true) (.t 12)),
     o1 14 (.mv (.t 13)),
     oF 15 (.faddr 4 (.t 1)) 14,
     oF 16 (.load none (.t 15)) 14,
     oF 17 (.lenL (.t 16)) 14,
     oF 18 (.bin .gtr (.t 17) (cI 24)) 14,
     o1 19 (.pick (.t 14) (cB true) (.t 18))])
    (.cond (.t 19) (.seq (.reg [o1 2 (.mv (cI 3))])
      (.ret)) (.skip)))
   (.seq (.seq (.reg [o1 20 (.load (some 5) (.t 1)),
      o1 21 (.call (.f 51) [(.t 20)]),
      o1 22 (.call (.f 50) [(.t 21)]),
      o1 3 (.mv (.t 22))])
     (.seq (.reg [o1 23 (.mv (.t 3)),
       o1 24 (.bin .neq (.t 23) (cI 0))])
      (.cond (.t 24) (.seq (.reg [o1 25 (.mv (.t 3)),
         o1 2 (.mv (.t 25))])
        (.ret)) (.skip))))
    (.seq (.seq (.reg [o1 26 (.load (some 5) (.t 1)),
       o1 27 (.call (.f 52) [(.t 26)]),
       o1 28 (.un .not (.t 27))])
      (.cond (.t 28) (.seq (.reg [o1 2 (.mv (cI 1))])
        (.ret)) (.skip)))
     (.seq (.reg [o1 2 (.mv (cI 0))])
      (.ret)))))
theorem s22_ok : lookF Try.prog 22 = some (s22, 29, [.tmp 2]) := by kernel_rfl
theorem rValidate_ok (h : Book) : Fn P 22 [bkA h] (intA (vErr h)) := by
  by_cases h0 : 300 < h.2.2.1.length ∨ 300 < h.2.2.2.1.length ∨ 24 < h.2.2.2.2.length
  · rw [vErr, if_pos h0]
    (refine fn_look s22_ok (by simp) (by intro k; simp only [go_sem, Nat.reduceEqDiff, ↓reduceIte, reduceCtorEq, Nat.reduceAdd, Nat.reduceMul, Int.reduceToNat, List.reduceReplicate, Nat.reduceLeDiff, Nat.reduceLT, Int.reduceLT, Int.reduceLE, Int.reduceEq]) fun S hS => cwp_sound _ _ _ _ ?_; simp (maxSteps := 900000) (disch := omega) only [s22, go_sem, Nat.reduceEqDiff, ↓reduceIte, reduceCtorEq, Nat.reduceAdd, Nat.reduceMul, Int.reduceToNat, List.reduceReplicate, Nat.reduceLeDiff, Nat.reduceLT, Int.reduceLT, Int.reduceLE, Int.reduceEq])
    repeat' (first | with_reducible refine inw ?_ | simp (maxSteps := 900000) (disch := omega) only [go_sem, Nat.reduceEqDiff, ↓reduceIte, reduceCtorEq, Nat.reduceAdd, Nat.reduceMul, Int.reduceToNat, List.reduceReplicate, Nat.reduceLeDiff, Nat.reduceLT, Int.reduceLT, Int.reduceLE, Int.reduceEq] | with_reducible refine pickB_f ?_ | with_reducible refine giv_intro fun _h => ?_ | with_reducible refine alt_intro ?_ fun _h => ?_ | with_reducible refine pickD_nil ?_ | (with_reducible refine brc (fun _h => ?_) fun _h => ?_) <;> first | (exfalso; omega) | simp only [decide_eq_false _h] | simp only [(_h : (_ : Bool) = _)] | simp only [decide_eq_true _h] | skip)
  have c1 := rWords_ok h (by omega) (by omega) (by omega)
  have c2 := rWordE_ok (bookW h)
  rw [vErr, if_neg h0]
  by_cases h1 : wordsErr (bookW h) ≠ 0
  · rw [if_pos h1]
    (refine fn_look s22_ok (by simp) (by intro k; simp only [go_sem, Nat.reduceEqDiff, ↓reduceIte, reduceCtorEq, Nat.reduceAdd, Nat.reduceMul, Int.reduceToNat, List.reduceReplicate, Nat.reduceLeDiff, Nat.reduceLT, Int.reduceLT, Int.reduceLE, Int.reduceEq]) fun S hS => cwp_sound _ _ _ _ ?_; simp (maxSteps := 900000) (disch := omega) only [s22, go_sem, Nat.reduceEqDiff, ↓reduceIte, reduceCtorEq, Nat.reduceAdd, Nat.reduceMul, Int.reduceToNat, List.reduceReplicate, Nat.reduceLeDiff, Nat.reduceLT, Int.reduceLT, Int.reduceLE, Int.reduceEq])
    repeat' (first | with_reducible refine inw ?_ | simp (maxSteps := 900000) (disch := omega) only [go_sem, Nat.reduceEqDiff, ↓reduceIte, reduceCtorEq, Nat.reduceAdd, Nat.reduceMul, Int.reduceToNat, List.reduceReplicate, Nat.reduceLeDiff, Nat.reduceLT, Int.reduceLT, Int.reduceLE, Int.reduceEq] | (with_reducible apply call (c1)); (focus simp (maxSteps := 900000) (disch := omega) only [go_sem, Nat.reduceEqDiff, ↓reduceIte, reduceCtorEq, Nat.reduceAdd, Nat.reduceMul, Int.reduceToNat, List.reduceReplicate, Nat.reduceLeDiff, Nat.reduceLT, Int.reduceLT, Int.reduceLE, Int.reduceEq] <;> rfl) | (with_reducible apply call (c2)); (focus simp (maxSteps := 900000) (disch := omega) only [go_sem, Nat.reduceEqDiff, ↓reduceIte, reduceCtorEq, Nat.reduceAdd, Nat.reduceMul, Int.reduceToNat, List.reduceReplicate, Nat.reduceLeDiff, Nat.reduceLT, Int.reduceLT, Int.reduceLE, Int.reduceEq] <;> rfl) | with_reducible refine pickB_f ?_ | with_reducible refine giv_intro fun _h => ?_ | with_reducible refine alt_intro ?_ fun _h => ?_ | with_reducible refine pickD_nil ?_ | (with_reducible refine brc (fun _h => ?_) fun _h => ?_) <;> first | (exfalso; omega) | simp only [decide_eq_false _h] | simp only [(_h : (_ : Bool) = _)] | simp only [decide_eq_true _h] | skip)
    all_goals skip
  have hW0 : wordsErr (bookW h) = 0 := by omega
  rw [if_neg h1]
  rw [hW0] at c2
  have c3 := isBook_ok h (fun p hp => wordErr_len (wordsErr_mem hW0 _ (by simp only [bookW, List.mem_append, List.mem_map]; exact .inl ⟨p, hp, rfl⟩))) (fun p hp => wordErr_len (wordsErr_mem hW0 _ (by simp only [bookW, List.mem_append, List.mem_map]; exact .inr (.inl ⟨p, hp, rfl⟩))))
  cases hb : bookB h
  · rw [hb] at c3
    (refine fn_look s22_ok (by simp) (by intro k; simp only [go_sem, Nat.reduceEqDiff, ↓reduceIte, reduceCtorEq, Nat.reduceAdd, Nat.reduceMul, Int.reduceToNat, List.reduceReplicate, Nat.reduceLeDiff, Nat.reduceLT, Int.reduceLT, Int.reduceLE, Int.reduceEq]) fun S hS => cwp_sound _ _ _ _ ?_; simp (maxSteps := 900000) (disch := omega) only [s22, go_sem, Nat.reduceEqDiff, ↓reduceIte, reduceCtorEq, Nat.reduceAdd, Nat.reduceMul, Int.reduceToNat, List.reduceReplicate, Nat.reduceLeDiff, Nat.reduceLT, Int.reduceLT, Int.reduceLE, Int.reduceEq])
    repeat' (first | with_reducible refine inw ?_ | simp (maxSteps := 900000) (disch := omega) only [go_sem, Nat.reduceEqDiff, ↓reduceIte, reduceCtorEq, Nat.reduceAdd, Nat.reduceMul, Int.reduceToNat, List.reduceReplicate, Nat.reduceLeDiff, Nat.reduceLT, Int.reduceLT, Int.reduceLE, Int.reduceEq] | (with_reducible apply call (c1)); (focus simp (maxSteps := 900000) (disch := omega) only [go_sem, Nat.reduceEqDiff, ↓reduceIte, reduceCtorEq, Nat.reduceAdd, Nat.reduceMul, Int.reduceToNat, List.reduceReplicate, Nat.reduceLeDiff, Nat.reduceLT, Int.reduceLT, Int.reduceLE, Int.reduceEq] <;> rfl) | (with_reducible apply call (c2)); (focus simp (maxSteps := 900000) (disch := omega) only [go_sem, Nat.reduceEqDiff, ↓reduceIte, reduceCtorEq, Nat.reduceAdd, Nat.reduceMul, Int.reduceToNat, List.reduceReplicate, Nat.reduceLeDiff, Nat.reduceLT, Int.reduceLT, Int.reduceLE, Int.reduceEq] <;> rfl) | (with_reducible apply call (c3)); (focus simp (maxSteps := 900000) (disch := omega) only [go_sem, Nat.reduceEqDiff, ↓reduceIte, reduceCtorEq, Nat.reduceAdd, Nat.reduceMul, Int.reduceToNat, List.reduceReplicate, Nat.reduceLeDiff, Nat.reduceLT, Int.reduceLT, Int.reduceLE, Int.reduceEq] <;> rfl) | with_reducible refine pickB_f ?_ | with_reducible refine giv_intro fun _h => ?_ | with_reducible refine alt_intro ?_ fun _h => ?_ | with_reducible refine pickD_nil ?_ | (with_reducible refine brc (fun _h => ?_) fun _h => ?_) <;> first | (exfalso; omega) | simp only [decide_eq_false _h] | simp only [(_h : (_ : Bool) = _)] | simp only [decide_eq_true _h] | skip)
    all_goals rfl
  · rw [hb] at c3
    (refine fn_look s22_ok (by simp) (by intro k; simp only [go_sem, Nat.reduceEqDiff, ↓reduceIte, reduceCtorEq, Nat.reduceAdd, Nat.reduceMul, Int.reduceToNat, List.reduceReplicate, Nat.reduceLeDiff, Nat.reduceLT, Int.reduceLT, Int.reduceLE, Int.reduceEq]) fun S hS => cwp_sound _ _ _ _ ?_; simp (maxSteps := 900000) (disch := omega) only [s22, go_sem, Nat.reduceEqDiff, ↓reduceIte, reduceCtorEq, Nat.reduceAdd, Nat.reduceMul, Int.reduceToNat, List.reduceReplicate, Nat.reduceLeDiff, Nat.reduceLT, Int.reduceLT, Int.reduceLE, Int.reduceEq])
    repeat' (first | with_reducible refine inw ?_ | simp (maxSteps := 900000) (disch := omega) only [go_sem, Nat.reduceEqDiff, ↓reduceIte, reduceCtorEq, Nat.reduceAdd, Nat.reduceMul, Int.reduceToNat, List.reduceReplicate, Nat.reduceLeDiff, Nat.reduceLT, Int.reduceLT, Int.reduceLE, Int.reduceEq] | (with_reducible apply call (c1)); (focus simp (maxSteps := 900000) (disch := omega) only [go_sem, Nat.reduceEqDiff, ↓reduceIte, reduceCtorEq, Nat.reduceAdd, Nat.reduceMul, Int.reduceToNat, List.reduceReplicate, Nat.reduceLeDiff, Nat.reduceLT, Int.reduceLT, Int.reduceLE, Int.reduceEq] <;> rfl) | (with_reducible apply call (c2)); (focus simp (maxSteps := 900000) (disch := omega) only [go_sem, Nat.reduceEqDiff, ↓reduceIte, reduceCtorEq, Nat.reduceAdd, Nat.reduceMul, Int.reduceToNat, List.reduceReplicate, Nat.reduceLeDiff, Nat.reduceLT, Int.reduceLT, Int.reduceLE, Int.reduceEq] <;> rfl) | (with_reducible apply call (c3)); (focus simp (maxSteps := 900000) (disch := omega) only [go_sem, Nat.reduceEqDiff, ↓reduceIte, reduceCtorEq, Nat.reduceAdd, Nat.reduceMul, Int.reduceToNat, List.reduceReplicate, Nat.reduceLeDiff, Nat.reduceLT, Int.reduceLT, Int.reduceLE, Int.reduceEq] <;> rfl) | with_reducible refine pickB_f ?_ | with_reducible refine giv_intro fun _h => ?_ | with_reducible refine alt_intro ?_ fun _h => ?_ | with_reducible refine pickD_nil ?_ | (with_reducible refine brc (fun _h => ?_) fun _h => ?_) <;> first | (exfalso; omega) | simp only [decide_eq_false _h] | simp only [(_h : (_ : Bool) = _)] | simp only [decide_eq_true _h] | skip)
    all_goals rfl
def askE (h : Book) (w : List Str) : Int := if vErr h ≠ 0 then vErr h else wordErr w
/-- ablaut/ablautref24.asked: 2 parameters, 0 captured -/
def s40 : SC := .seq (.reg [o1 2 (.box 37 5 (.t 0)),
   o1 4 (.mv (cI 0))])
  (.seq (.seq (.reg [o1 6 (.load (some 5) (.t 2)),
     o1 7 (.call (.f 22) [(.t 6)]),
     o1 5 (.mv (.t 7))])
    (.seq (.reg [o1 8 (.mv (.t 5)),
      o1 9 (.bin .neq (.t 8) (cI 0))])
     (.cond (.t 9) (.seq (.reg [o1 10 (.mv (.t 5)),
        o1 4 (.mv (.t 10))])
       (.ret)) (.skip))))
   (.seq (.reg [o1 11 (.mv (.t 1)),
     o1 12 (.call (.f 9) [(.t 11)]),
     o1 4 (.mv (.t 12))])
    (.ret)))
theorem s40_ok : lookF Try.prog 40 = some (s40, 13, [.tmp 4]) := by kernel_rfl
theorem asked_ok (h : Book) (w : List Str) : Fn P 40 [bkA h, sl w] (intA (askE h w)) := by
  have c1 := rValidate_ok h
  have c2 := refValidateWord_ok w
  unfold askE
  (refine fn_look s40_ok (by simp) (by intro k; simp only [go_sem, Nat.reduceEqDiff, ↓reduceIte, reduceCtorEq, Nat.reduceAdd, Nat.reduceMul, Int.reduceToNat, List.reduceReplicate, Nat.reduceLeDiff, Nat.reduceLT, Int.reduceLT, Int.reduceLE, Int.reduceEq]) fun S hS => cwp_sound _ _ _ _ ?_; simp (maxSteps := 900000) (disch := omega) only [s40, go_sem, Nat.reduceEqDiff, ↓reduceIte, reduceCtorEq, Nat.reduceAdd, Nat.reduceMul, Int.reduceToNat, List.reduceReplicate, Nat.reduceLeDiff, Nat.reduceLT, Int.reduceLT, Int.reduceLE, Int.reduceEq])
  repeat' (first | with_reducible refine inw ?_ | simp (maxSteps := 900000) (disch := omega) only [go_sem, Nat.reduceEqDiff, ↓reduceIte, reduceCtorEq, Nat.reduceAdd, Nat.reduceMul, Int.reduceToNat, List.reduceReplicate, Nat.reduceLeDiff, Nat.reduceLT, Int.reduceLT, Int.reduceLE, Int.reduceEq] | (with_reducible apply call (c1)); (focus simp (maxSteps := 900000) (disch := omega) only [go_sem, Nat.reduceEqDiff, ↓reduceIte, reduceCtorEq, Nat.reduceAdd, Nat.reduceMul, Int.reduceToNat, List.reduceReplicate, Nat.reduceLeDiff, Nat.reduceLT, Int.reduceLT, Int.reduceLE, Int.reduceEq] <;> rfl) | (with_reducible apply call (c2)); (focus simp (maxSteps := 900000) (disch := omega) only [go_sem, Nat.reduceEqDiff, ↓reduceIte, reduceCtorEq, Nat.reduceAdd, Nat.reduceMul, Int.reduceToNat, List.reduceReplicate, Nat.reduceLeDiff, Nat.reduceLT, Int.reduceLT, Int.reduceLE, Int.reduceEq] <;> rfl) | with_reducible refine pickB_f ?_ | with_reducible refine giv_intro fun _h => ?_ | with_reducible refine alt_intro ?_ fun _h => ?_ | with_reducible refine pickD_nil ?_ | (with_reducible refine brc (fun _h => ?_) fun _h => ?_) <;> first | (exfalso; omega) | simp only [decide_eq_false _h] | simp only [(_h : (_ : Bool) = _)] | simp only [decide_eq_true _h] | skip)
  · rw [if_pos _h]
  · rw [if_neg (by omega)]
/-- ablaut/hyph.both: 2 parameters, 0 captured -/
def s35 : SC := .seq (.reg [o1 2 (.box 37 5 (.t 0)),
   o1 4 (.mv (cI 0))])
  (.seq (.seq (.reg [o1 6 (.load (some 5) (.t 2)),
     o1 7 (.call (.f 21) [(.t 6)]),
     o1 5 (.mv (.t 7))])
    (.seq (.reg [o1 8 (.mv (.t 5)),
      o1 9 (.bin .neq (.t 8) (cI 0))])
     (.cond (.t 9) (.seq (.reg [o1 10 (.mv (.t 5)),
        o1 4 (.mv (.t 10))])
       (.ret)) (.skip))))
   (.seq (.reg [o1 11 (.mv (.t 1)),
     o1 12 (.call (.f 46) [(.t 11)]),
     o1 4 (.mv (.t 12))])
    (.ret)))
theorem s35_ok : lookF Try.prog 35 = some (s35, 13, [.tmp 4]) := by kernel_rfl
theorem both_ok (h : Book) (w : List Str) : Fn P 35 [bkA h, sl w] (intA (askE h w)) := by
  have c1 := hValidate_ok h
  have c2 := ValidateWord_ok w
  unfold askE
  (refine fn_look s35_ok (by simp) (by intro k; simp only [go_sem, Nat.reduceEqDiff, ↓reduceIte, reduceCtorEq, Nat.reduceAdd, Nat.reduceMul, Int.reduceToNat, List.reduceReplicate, Nat.reduceLeDiff, Nat.reduceLT, Int.reduceLT, Int.reduceLE, Int.reduceEq]) fun S hS => cwp_sound _ _ _ _ ?_; simp (maxSteps := 900000) (disch := omega) only [s35, go_sem, Nat.reduceEqDiff, ↓reduceIte, reduceCtorEq, Nat.reduceAdd, Nat.reduceMul, Int.reduceToNat, List.reduceReplicate, Nat.reduceLeDiff, Nat.reduceLT, Int.reduceLT, Int.reduceLE, Int.reduceEq])
  repeat' (first | with_reducible refine inw ?_ | simp (maxSteps := 900000) (disch := omega) only [go_sem, Nat.reduceEqDiff, ↓reduceIte, reduceCtorEq, Nat.reduceAdd, Nat.reduceMul, Int.reduceToNat, List.reduceReplicate, Nat.reduceLeDiff, Nat.reduceLT, Int.reduceLT, Int.reduceLE, Int.reduceEq] | (with_reducible apply call (c1)); (focus simp (maxSteps := 900000) (disch := omega) only [go_sem, Nat.reduceEqDiff, ↓reduceIte, reduceCtorEq, Nat.reduceAdd, Nat.reduceMul, Int.reduceToNat, List.reduceReplicate, Nat.reduceLeDiff, Nat.reduceLT, Int.reduceLT, Int.reduceLE, Int.reduceEq] <;> rfl) | (with_reducible apply call (c2)); (focus simp (maxSteps := 900000) (disch := omega) only [go_sem, Nat.reduceEqDiff, ↓reduceIte, reduceCtorEq, Nat.reduceAdd, Nat.reduceMul, Int.reduceToNat, List.reduceReplicate, Nat.reduceLeDiff, Nat.reduceLT, Int.reduceLT, Int.reduceLE, Int.reduceEq] <;> rfl) | with_reducible refine pickB_f ?_ | with_reducible refine giv_intro fun _h => ?_ | with_reducible refine alt_intro ?_ fun _h => ?_ | with_reducible refine pickD_nil ?_ | (with_reducible refine brc (fun _h => ?_) fun _h => ?_) <;> first | (exfalso; omega) | simp only [decide_eq_false _h] | simp only [(_h : (_ : Bool) = _)] | simp only [decide_eq_true _h] | skip)
  · rw [if_pos _h]
  · rw [if_neg (by omega)]
end Go.Proofs.Ytfihpbeihlpfcaa.Ev

/- Two words joined; the law HarmJoins. -/
import Derived.Test.YtpfoflhhbkjngaaZFnHg
set_option linter.unusedVariables false
set_option linter.unusedSimpArgs false
namespace Go.Proofs.Ytpfoflhhbkjngaa.Ev
open Go Go.Proofs

def begB (w x : List Str) : Bool := decide (x.length ≤ w.length) && decide (w.take x.length = x)
def endB (w x : List Str) : Bool := decide (x.length ≤ w.length) && decide (w.drop (w.length - x.length) = x)
/-- ablaut/harm.begins: 2 parameters, 0 captured -/
def s82 : SC := .seq (.reg [o1 4 (.mv (cB false))])
  (.seq (.reg [o1 5 (.mv (.t 1)),
    o1 6 (.lenL (.t 5)),
    o1 7 (.mv (.t 0)),
    o1 8 (.lenL (.t 7)),
    o1 9 (.bin .leq (.t 6) (.t 8)),
    o1 10 (.mv (.t 9)),
    oT 11 (.mv (.t 0)) 10,
    oT 12 (.mv (.t 1)) 10,
    oT 13 (.lenL (.t 12)) 10,
    oT 14 (.sl 1 (.t 11) none (some (.t 13))) 10,
    oT 15 (.mv (.t 1)) 10,
    oT 16 (.call (.f 59) [(.t 14), (.t 15)]) 10,
    o1 17 (.pick (.t 10) (.t 16) (cB false)),
    o1 4 (.mv (.t 17))])
   (.ret))
theorem s82_ok : lookF Try.prog 82 = some (s82, 18, [.tmp 4]) := by kernel_rfl
theorem hBegins_ok (w x : List Str) : Fn P 82 [sl w, sl x] (boolA (begB w x)) := by
  (refine fn_look s82_ok (by simp) (by intro k; simp only [go_sem, Nat.reduceEqDiff, ↓reduceIte, reduceCtorEq, Nat.reduceAdd, Nat.reduceMul, Int.reduceToNat, List.reduceReplicate, Nat.reduceLeDiff, Nat.reduceLT, Int.reduceLT, Int.reduceLE, Int.reduceEq]) fun S hS => cwp_sound _ _ _ _ ?_; simp (maxSteps := 900000) (disch := omega) only [s82, go_sem, Nat.reduceEqDiff, ↓reduceIte, reduceCtorEq, Nat.reduceAdd, Nat.reduceMul, Int.reduceToNat, List.reduceReplicate, Nat.reduceLeDiff, Nat.reduceLT, Int.reduceLT, Int.reduceLE, Int.reduceEq])
  repeat' (first | with_reducible refine inw ?_ | simp (maxSteps := 900000) (disch := omega) only [go_sem, Nat.reduceEqDiff, ↓reduceIte, reduceCtorEq, Nat.reduceAdd, Nat.reduceMul, Int.reduceToNat, List.reduceReplicate, Nat.reduceLeDiff, Nat.reduceLT, Int.reduceLT, Int.reduceLE, Int.reduceEq] | (with_reducible apply call (Equal_ok _ _)); (focus simp (maxSteps := 900000) (disch := omega) only [go_sem, Nat.reduceEqDiff, ↓reduceIte, reduceCtorEq, Nat.reduceAdd, Nat.reduceMul, Int.reduceToNat, List.reduceReplicate, Nat.reduceLeDiff, Nat.reduceLT, Int.reduceLT, Int.reduceLE, Int.reduceEq] <;> rfl) | with_reducible refine pickB_f ?_ | with_reducible refine giv_intro fun _h => ?_ | with_reducible refine alt_intro ?_ fun _h => ?_ | with_reducible refine pickD_nil ?_ | (with_reducible refine brc (fun _h => ?_) fun _h => ?_) <;> first | (exfalso; omega) | simp only [decide_eq_false _h] | simp only [(_h : (_ : Bool) = _)] | simp only [decide_eq_true _h] | skip)
  · rw [begB, decide_eq_true (p := x.length ≤ w.length) (by omega), Bool.true_and]; rfl
  · rw [begB, decide_eq_false (p := x.length ≤ w.length) (by omega), Bool.false_and]
/-- ablaut/ablautref13.begin: 2 parameters, 0 captured -/
def s84 : SC := .seq (.reg [o1 4 (.mv (cB false))])
  (.seq (.reg [o1 5 (.mv (.t 1)),
    o1 6 (.lenL (.t 5)),
    o1 7 (.mv (.t 0)),
    o1 8 (.lenL (.t 7)),
    o1 9 (.bin .leq (.t 6) (.t 8)),
    o1 10 (.mv (.t 9)),
    oT 11 (.mv (.t 0)) 10,
    oT 12 (.mv (.t 1)) 10,
    oT 13 (.lenL (.t 12)) 10,
    oT 14 (.sl 1 (.t 11) none (some (.t 13))) 10,
    oT 15 (.mv (.t 1)) 10,
    oT 16 (.call (.f 22) [(.t 14), (.t 15)]) 10,
    o1 17 (.pick (.t 10) (.t 16) (cB false)),
    o1 4 (.mv (.t 17))])
   (.ret))
theorem s84_ok : lookF Try.prog 84 = some (s84, 18, [.tmp 4]) := by kernel_rfl
theorem rBegin_ok (w x : List Str) : Fn P 84 [sl w, sl x] (boolA (begB w x)) := by
  (refine fn_look s84_ok (by simp) (by intro k; simp only [go_sem, Nat.reduceEqDiff, ↓reduceIte, reduceCtorEq, Nat.reduceAdd, Nat.reduceMul, Int.reduceToNat, List.reduceReplicate, Nat.reduceLeDiff, Nat.reduceLT, Int.reduceLT, Int.reduceLE, Int.reduceEq]) fun S hS => cwp_sound _ _ _ _ ?_; simp (maxSteps := 900000) (disch := omega) only [s84, go_sem, Nat.reduceEqDiff, ↓reduceIte, reduceCtorEq, Nat.reduceAdd, Nat.reduceMul, Int.reduceToNat, List.reduceReplicate, Nat.reduceLeDiff, Nat.reduceLT, Int.reduceLT, Int.reduceLE, Int.reduceEq])
  repeat' (first | with_reducible refine inw ?_ | simp (maxSteps := 900000) (disch := omega) only [go_sem, Nat.reduceEqDiff, ↓reduceIte, reduceCtorEq, Nat.reduceAdd, Nat.reduceMul, Int.reduceToNat, List.reduceReplicate, Nat.reduceLeDiff, Nat.reduceLT, Int.reduceLT, Int.reduceLE, Int.reduceEq] | (with_reducible apply call (Same_ok _ _)); (focus simp (maxSteps := 900000) (disch := omega) only [go_sem, Nat.reduceEqDiff, ↓reduceIte, reduceCtorEq, Nat.reduceAdd, Nat.reduceMul, Int.reduceToNat, List.reduceReplicate, Nat.reduceLeDiff, Nat.reduceLT, Int.reduceLT, Int.reduceLE, Int.reduceEq] <;> rfl) | with_reducible refine pickB_f ?_ | with_reducible refine giv_intro fun _h => ?_ | with_reducible refine alt_intro ?_ fun _h => ?_ | with_reducible refine pickD_nil ?_ | (with_reducible refine brc (fun _h => ?_) fun _h => ?_) <;> first | (exfalso; omega) | simp only [decide_eq_false _h] | simp only [(_h : (_ : Bool) = _)] | simp only [decide_eq_true _h] | skip)
  · rw [begB, decide_eq_true (p := x.length ≤ w.length) (by omega), Bool.true_and]; rfl
  · rw [begB, decide_eq_false (p := x.length ≤ w.length) (by omega), Bool.false_and]
/-- ablaut/ablautref13.end: 2 parameters, 0 captured -/
def s115 : SC := .seq (.reg [o1 4 (.mv (cB false))])
  (.seq (.reg [o1 5 (.mv (.t 1)),
    o1 6 (.lenL (.t 5)),
    o1 7 (.mv (.t 0)),
    o1 8 (.lenL (.t 7)),
    o1 9 (.bin .leq (.t 6) (.t 8)),
    o1 10 (.mv (.t 9)),
    oT 11 (.mv (.t 0)) 10,
    oT 12 (.mv (.t 0)) 10,
    oT 13 (.lenL (.t 12)) 10,
    oT 14 (.mv (.t 1)) 10,
    oT 15 (.lenL (.t 14)) 10,
    oT 16 (.bin .sub (.t 13) (.t 15)) 10,
    oT 17 (.sl 1 (.t 11) (some (.t 16)) none) 10,
    oT 18 (.mv (.t 1)) 10,
    oT 19 (.call (.f 22) [(.t 17), (.t 18)]) 10,
    o1 20 (.pick (.t 10) (.t 19) (cB false)),
    o1 4 (.mv (.t 20))])
   (.ret))
theorem s115_ok : lookF Try.prog 115 = some (s115, 21, [.tmp 4]) := by kernel_rfl
theorem rEnd_ok (w x : List Str) (h : w.length ≤ 1000000000) (h2 : x.length ≤ 1000000000) : Fn P 115 [sl w, sl x] (boolA (endB w x)) := by
  have e1 : x.length ≤ w.length → ((w.length : Int) - x.length).toNat = w.length - x.length := fun h => by omega
  have e2 : List.take (w.length - (w.length - x.length)) (List.drop (w.length - x.length) w) = List.drop (w.length - x.length) w := List.take_of_length_le (by simp)
  (refine fn_look s115_ok (by simp) (by intro k; simp only [go_sem, Nat.reduceEqDiff, ↓reduceIte, reduceCtorEq, Nat.reduceAdd, Nat.reduceMul, Int.reduceToNat, List.reduceReplicate, Nat.reduceLeDiff, Nat.reduceLT, Int.reduceLT, Int.reduceLE, Int.reduceEq]) fun S hS => cwp_sound _ _ _ _ ?_; simp (maxSteps := 900000) (disch := omega) only [s115, go_sem, Nat.reduceEqDiff, ↓reduceIte, reduceCtorEq, Nat.reduceAdd, Nat.reduceMul, Int.reduceToNat, List.reduceReplicate, Nat.reduceLeDiff, Nat.reduceLT, Int.reduceLT, Int.reduceLE, Int.reduceEq])
  repeat' (first | with_reducible refine inw ?_ | simp (maxSteps := 900000) (disch := omega) only [go_sem, Nat.reduceEqDiff, ↓reduceIte, reduceCtorEq, Nat.reduceAdd, Nat.reduceMul, Int.reduceToNat, List.reduceReplicate, Nat.reduceLeDiff, Nat.reduceLT, Int.reduceLT, Int.reduceLE, Int.reduceEq, e1, e2] | (with_reducible apply call (Same_ok _ _)); (focus simp (maxSteps := 900000) (disch := omega) only [go_sem, Nat.reduceEqDiff, ↓reduceIte, reduceCtorEq, Nat.reduceAdd, Nat.reduceMul, Int.reduceToNat, List.reduceReplicate, Nat.reduceLeDiff, Nat.reduceLT, Int.reduceLT, Int.reduceLE, Int.reduceEq, e1, e2] <;> rfl) | with_reducible refine pickB_f ?_ | with_reducible refine giv_intro fun _h => ?_ | with_reducible refine alt_intro ?_ fun _h => ?_ | with_reducible refine pickD_nil ?_ | (with_reducible refine brc (fun _h => ?_) fun _h => ?_) <;> first | (exfalso; omega) | simp only [decide_eq_false _h] | simp only [(_h : (_ : Bool) = _)] | simp only [decide_eq_true _h] | skip)
  · rw [endB, decide_eq_true (p := x.length ≤ w.length) (by omega), Bool.true_and]
  · rw [endB, decide_eq_false (p := x.length ≤ w.length) (by omega), Bool.false_and]
theorem wk_nilsl {α : Type} {k : Nat} [Enc α k] : Wk (.sc (.slice none 0 0)) (sl ([] : List α)) := fun G v h => by have := wk_nil; exact (of_eq_true this) G v h
/-- The joint that is taken. -/
def pickJ (a b : List Str) (best j : Joint) : Joint := if (endB a j.1 && begB b j.2.1) = true ∧ wtJ best < wtJ j then j else best
def zJ : Joint := ([], [], [])
def bestJ (a b : List Str) (l : List Joint) : Joint := l.foldl (pickJ a b) zJ
theorem bestJ_step (a b : List Str) {l : List Joint} {i : Nat} (h : i < l.length) : bestJ a b (l.take (i + 1)) = pickJ a b (bestJ a b (l.take i)) (nth l i) := by
  rw [bestJ, List.take_add_one, nth_get? h]; simp [bestJ]
structure FitJ (a b : List Str) (j : Joint) : Prop where
  h1 : j.1.length ≤ a.length
  h2 : j.2.1.length ≤ b.length
  h3 : j.1.length ≤ 1000 ∧ j.2.1.length ≤ 1000 ∧ j.2.2.length ≤ 1000
theorem bestJ_fit (a b : List Str) {l : List Joint} (hl : ∀ j ∈ l, j.1.length ≤ 1000 ∧ j.2.1.length ≤ 1000 ∧ j.2.2.length ≤ 1000) : ∀ i, i ≤ l.length → FitJ a b (bestJ a b (l.take i))
  | 0, _ => ⟨by simp [bestJ, zJ], by simp [bestJ, zJ], by simp [bestJ, zJ]⟩
  | i + 1, hi => by
    rw [bestJ_step a b (by omega), pickJ]
    split
    · rename_i h
      simp only [endB, begB, Bool.and_eq_true, decide_eq_true_eq] at h
      exact ⟨h.1.1.1, h.1.2.1, hl _ (nth_mem (by omega))⟩
    · exact bestJ_fit a b hl i (by omega)
def joinL (l : List Joint) (a b : List Str) : List Str := a.take (a.length - (bestJ a b l).1.length) ++ ((bestJ a b l).2.2 ++ b.drop (bestJ a b l).2.1.length)
/-- ablaut/harm.joined: 3 parameters, 0 captured -/
def s69 : SC := .seq (.reg [o1 6 (.mv (.c (.slice none 0 0)))])
  (.seq (.reg [o1 7 (.alloc 83 3 [(.slice none 0 0), (.slice none 0 0), (.slice none 0 0)])])
   (.seq (.seq (.reg [o1 11 (.mv (.t 0)),
      o1 12 (.lenL (.t 11)),
      o1 13 (.mv (cI 0))])
     (.block 0 (.loop (.seq (.reg [o1 14 (.bin .lss (.t 13) (.t 12))])
        (.seq (.cond (.t 14) (.skip) (.exit 0))
         (.seq (.block 1 (.seq (.reg [o1 15 (.iaddr 3 (.t 11) (.t 13)),
             o1 16 (.load (some 3) (.t 15)),
             o1 9 (.alloc 83 3 [(.slice none 0 0), (.slice none 0 0), (.slice none 0 0)]),
             o0 (.store 3 (.t 9) (.t 16))])
            (.seq (.regC [(false, o1 17 (.faddr 0 (.t 9))),
              (false, o1 18 (.load none (.t 17))),
              (false, o1 19 (.lenL (.t 18))),
              (false, o1 20 (.mv (.t 1))),
              (false, o1 21 (.lenL (.t 20))),
              (false, o1 22 (.bin .leq (.t 19) (.t 21))),
              (false, o1 23 (.mv (.t 22))),
              (false, oT 24 (.mv (.t 1)) 23),
              (false, oT 25 (.mv (.t 1)) 23),
              (false, oT 26 (.lenL (.t 25)) 23),
              (false, oT 27 (.faddr 0 (.t 9)) 23),
              (false, oT 28 (.load none (.t 27)) 23),
              (false, oT 29 (.lenL (.t 28)) 23),
              (false, oT 30 (.bin .sub (.t 26) (.t 29)) 23),
              (false, oT 31 (.sl 1 (.t 24) (some (.t 30)) none) 23),
              (false, oT 32 (.faddr 0 (.t 9)) 23),
              (false, oT 33 (.load none (.t 32)) 23),
              (true, oT 34 (.call (.f 59) [(.t 31), (.t 33)]) 23),
              (false, o1 35 (.pick (.t 23) (.t 34) (cB false))),
              (false, o1 10 (.mv (.t 35)))])
             (.seq (.reg [o1 36 (.mv (.t 10)),
               o1 37 (.mv (.t 36)),
               oT 38 (.mv (.t 2)) 37,
               oT 39 (.faddr 1 (.t 9)) 37,
               oT 40 (.load none (.t 39)) 37,
               oT 41 (.call (.f 82) [(.t 38), (.t 40)]) 37,
               o1 42 (.pick (.t 37) (.t 41) (cB false)),
               o1 43 (.mv (.t 42)),
               oT 44 (.faddr 0 (.t 9)) 43,
               oT 45 (.load none (.t 44)) 43,
               oT 46 (.lenL (.t 45)) 43,
               oT 47 (.faddr 1 (.t 9)) 43,
               oT 48 (.load none (.t 47)) 43,
               oT 49 (.lenL (.t 48)) 43,
               oT 50 (.bin .add (.t 46) (.t 49)) 43,
               oT 51 (.faddr 0 (.t 7)) 43,
               oT 52 (.load none (.t 51)) 43,
               oT 53 (.lenL (.t 52)) 43,
               oT 54 (.faddr 1 (.t 7)) 43,
               oT 55 (.load none (.t 54)) 43,
               oT 56 (.lenL (.t 55)) 43,
               oT 57 (.bin .add (.t 53) (.t 56)) 43,
               oT 58 (.bin .gtr (.t 50) (.t 57)) 43,
               o1 59 (.pick (.t 43) (.t 58) (cB false))])
              (.cond (.t 59) (.reg [o1 60 (.load (some 3) (.t 9)),
                o0 (.store 3 (.t 7) (.t 60))]) (.skip))))))
          (.reg [o1 61 (.bin .add (.t 13) (cI 1)),
           o1 13 (.mv (.t 61))])))))))
    (.seq (.regC [(false, o1 62 (.mv (.t 1))),
      (false, o1 63 (.mv (.t 1))),
      (false, o1 64 (.lenL (.t 63))),
      (false, o1 65 (.faddr 0 (.t 7))),
      (false, o1 66 (.load none (.t 65))),
      (false, o1 67 (.lenL (.t 66))),
      (false, o1 68 (.bin .sub (.t 64) (.t 67))),
      (false, o1 69 (.sl 1 (.t 62) none (some (.t 68)))),
      (false, o1 70 (.faddr 2 (.t 7))),
      (false, o1 71 (.load none (.t 70))),
      (false, o1 72 (.mv (.t 2))),
      (false, o1 73 (.faddr 1 (.t 7))),
      (false, o1 74 (.load none (.t 73))),
      (false, o1 75 (.lenL (.t 74))),
      (false, o1 76 (.sl 1 (.t 72) (some (.t 75)) none)),
      (false, o1 77 (.buildSl 22 1 3 [(.slice none 0 0)] [(0, 1, (.t 69)), (1, 1, (.t 71)), (2, 1, (.t 76))])),
      (true, o1 78 (.call (.f 75) [(.t 77)])),
      (false, o1 6 (.mv (.t 78)))])
     (.ret))))
theorem s69_ok : lookF Try.prog 69 = some (s69, 79, [.tmp 6]) := by kernel_rfl
set_option maxHeartbeats 2000000 in
theorem joined_ok (l : List Joint) (a b : List Str) (hl : ∀ j ∈ l, j.1.length ≤ 1000 ∧ j.2.1.length ≤ 1000 ∧ j.2.2.length ≤ 1000) (ha : a.length ≤ 1000000) (hb : b.length ≤ 1000000) : Fn P 69 [sl l, sl a, sl b] (sl (joinL l a b)) := by
  (refine fn_look s69_ok (by simp) (by intro k; simp only [go_sem, Nat.reduceEqDiff, ↓reduceIte, reduceCtorEq, Nat.reduceAdd, Nat.reduceMul, Int.reduceToNat, List.reduceReplicate, Nat.reduceLeDiff, Nat.reduceLT, Int.reduceLT, Int.reduceLE, Int.reduceEq]) fun S hS => cwp_sound _ _ _ _ ?_; simp (maxSteps := 900000) (disch := omega) only [s69, go_sem, Nat.reduceEqDiff, ↓reduceIte, reduceCtorEq, Nat.reduceAdd, Nat.reduceMul, Int.reduceToNat, List.reduceReplicate, Nat.reduceLeDiff, Nat.reduceLT, Int.reduceLT, Int.reduceLE, Int.reduceEq])
  repeat' (first | with_reducible refine inw ?_ | simp (maxSteps := 900000) (disch := omega) only [go_sem, Nat.reduceEqDiff, ↓reduceIte, reduceCtorEq, Nat.reduceAdd, Nat.reduceMul, Int.reduceToNat, List.reduceReplicate, Nat.reduceLeDiff, Nat.reduceLT, Int.reduceLT, Int.reduceLE, Int.reduceEq] | with_reducible refine pickB_f ?_ | with_reducible refine giv_intro fun _h => ?_ | with_reducible refine alt_intro ?_ fun _h => ?_ | with_reducible refine pickD_nil ?_ | (with_reducible refine brc (fun _h => ?_) fun _h => ?_) <;> first | (exfalso; omega) | simp only [decide_eq_false _h] | simp only [(_h : (_ : Bool) = _)] | simp only [decide_eq_true _h] | skip)
  refine retype 0 83 [zJ] rfl (by simp only [cellsL_cons, cellsL_nil, cells_p3, cells_l, zJ]; simp (maxSteps := 900000) (disch := omega) only [go_sem, Nat.reduceEqDiff, ↓reduceIte, reduceCtorEq, Nat.reduceAdd, Nat.reduceMul, Int.reduceToNat, List.reduceReplicate, Nat.reduceLeDiff, Nat.reduceLT, Int.reduceLT, Int.reduceLE, Int.reduceEq]; exact ⟨wk_nilsl, wk_nilsl, wk_nilsl⟩) ?_
  simp only [List.set_cons_zero]
  (refine loopC hS [1, 2, 7, 11, 12] (by simp only [go_sem, Nat.reduceEqDiff, ↓reduceIte, reduceCtorEq, Nat.reduceAdd, Nat.reduceMul, Int.reduceToNat, List.reduceReplicate, Nat.reduceLeDiff, Nat.reduceLT, Int.reduceLT, Int.reduceLE, Int.reduceEq]; try rfl) (fun (i : Nat) => [(13, intA i)]) (fun (i : Nat) => [rowO 83 [bestJ a b (l.take i)]]) (fun (i : Nat) => i ≤ l.length) (fun (i : Nat) => l.length - i) (0) ?_ (by intro s; first | (simp only [List.length_cons, List.length_nil]; done) | rfl | (rcases s with ⟨_, _⟩; rfl) | (rcases s with ⟨_, _, _⟩; rfl) | (rcases s with ⟨_, _, _, _⟩; rfl) | (rcases s with ⟨_, _, _, _, _⟩; rfl)) ?_)
  · simp (maxSteps := 900000) (disch := omega) only [go_sem, Nat.reduceEqDiff, ↓reduceIte, reduceCtorEq, Nat.reduceAdd, Nat.reduceMul, Int.reduceToNat, List.reduceReplicate, Nat.reduceLeDiff, Nat.reduceLT, Int.reduceLT, Int.reduceLE, Int.reduceEq]; simp [bestJ]
  rintro i hi
  replace hi : i ≤ l.length := hi
  have fit := bestJ_fit a b hl i hi
  obtain ⟨f1, f2, f3⟩ := fit
  have sb : i < l.length → bestJ a b (l.take (i + 1)) = pickJ a b (bestJ a b (l.take i)) (nth l i) := fun h => bestJ_step a b h
  generalize hbj : bestJ a b (l.take i) = bj at *
  by_cases hil : i < l.length
  · have hj := hl _ (nth_mem hil)
    have e1 : (nth l i).1.length ≤ a.length → ((a.length : Int) - (nth l i).1.length).toNat = a.length - (nth l i).1.length := fun h => by omega
    have e2 : List.take (a.length - (a.length - (nth l i).1.length)) (List.drop (a.length - (nth l i).1.length) a) = List.drop (a.length - (nth l i).1.length) a := List.take_of_length_le (by simp)
    have d1 := Equal_ok (List.drop (a.length - (nth l i).1.length) a) (nth l i).1
    have c1 := hBegins_ok b (nth l i).2.1
    repeat' (first | with_reducible refine inw ?_ | simp (maxSteps := 900000) (disch := omega) only [go_sem, Nat.reduceEqDiff, ↓reduceIte, reduceCtorEq, Nat.reduceAdd, Nat.reduceMul, Int.reduceToNat, List.reduceReplicate, Nat.reduceLeDiff, Nat.reduceLT, Int.reduceLT, Int.reduceLE, Int.reduceEq, e1, e2] | (with_reducible apply call_D (d1)); (focus simp (maxSteps := 900000) (disch := omega) only [go_sem, Nat.reduceEqDiff, ↓reduceIte, reduceCtorEq, Nat.reduceAdd, Nat.reduceMul, Int.reduceToNat, List.reduceReplicate, Nat.reduceLeDiff, Nat.reduceLT, Int.reduceLT, Int.reduceLE, Int.reduceEq, e1, e2] <;> rfl) | (with_reducible apply call (c1)); (focus simp (maxSteps := 900000) (disch := omega) only [go_sem, Nat.reduceEqDiff, ↓reduceIte, reduceCtorEq, Nat.reduceAdd, Nat.reduceMul, Int.reduceToNat, List.reduceReplicate, Nat.reduceLeDiff, Nat.reduceLT, Int.reduceLT, Int.reduceLE, Int.reduceEq, e1, e2] <;> rfl) | with_reducible refine pickB_f ?_ | with_reducible refine giv_intro fun _h => ?_ | with_reducible refine alt_intro ?_ fun _h => ?_ | with_reducible refine pickD_nil ?_ | (with_reducible refine brc (fun _h => ?_) fun _h => ?_) <;> first | (exfalso; omega) | simp only [decide_eq_false _h] | simp only [(_h : (_ : Bool) = _)] | simp only [decide_eq_true _h] | skip)
    · have e : bestJ a b (l.take (i + 1)) = nth l i := by
        rw [sb hil, pickJ, if_pos]
        exact ⟨by simp only [endB, Bool.and_eq_true, decide_eq_true_eq]; exact ⟨⟨by omega, by assumption⟩, by assumption⟩, by simp only [wtJ]; omega⟩
      exact ⟨i + 1, ⟨by omega, by omega⟩, by omega, by rw [e]⟩
    all_goals
      have e : bestJ a b (l.take (i + 1)) = bj := by
        rw [sb hil, pickJ, if_neg]
        simp only [endB, wtJ, Bool.and_eq_true, decide_eq_true_eq]
        rintro ⟨⟨⟨g1, g2⟩, g3⟩, g4⟩
        first
          | omega
          | (rw [g3] at _h; cases _h)
          | exact absurd g2 (by assumption)
      exact ⟨i + 1, ⟨by omega, by omega⟩, by omega, by rw [e]⟩
  · have hz : l.take i = l := List.take_of_length_le (by omega)
    rw [hz] at hbj
    have ej : joinL l a b = List.flatten [a.take (a.length - bj.1.length), bj.2.2, b.drop bj.2.1.length] := by rw [joinL, hbj]; simp
    have k1 := concatS_ok [a.take (a.length - bj.1.length), bj.2.2, b.drop bj.2.1.length] (by simp) (by simp; omega)
    have e1 : ((a.length : Int) - bj.1.length).toNat = a.length - bj.1.length := by omega
    have e2 : List.take (b.length - bj.2.1.length) (List.drop bj.2.1.length b) = List.drop bj.2.1.length b := List.take_of_length_le (by simp)
    rw [← ej] at k1
    repeat' (first | with_reducible refine inw ?_ | simp (maxSteps := 900000) (disch := omega) only [go_sem, Nat.reduceEqDiff, ↓reduceIte, reduceCtorEq, Nat.reduceAdd, Nat.reduceMul, Int.reduceToNat, List.reduceReplicate, Nat.reduceLeDiff, Nat.reduceLT, Int.reduceLT, Int.reduceLE, Int.reduceEq, e1, e2] | (with_reducible apply call_D (k1)); (focus simp (maxSteps := 900000) (disch := omega) only [go_sem, Nat.reduceEqDiff, ↓reduceIte, reduceCtorEq, Nat.reduceAdd, Nat.reduceMul, Int.reduceToNat, List.reduceReplicate, Nat.reduceLeDiff, Nat.reduceLT, Int.reduceLT, Int.reduceLE, Int.reduceEq, e1, e2] <;> rfl) | with_reducible refine pickB_f ?_ | with_reducible refine giv_intro fun _h => ?_ | with_reducible refine alt_intro ?_ fun _h => ?_ | with_reducible refine pickD_nil ?_ | (with_reducible refine brc (fun _h => ?_) fun _h => ?_) <;> first | (exfalso; omega) | simp only [decide_eq_false _h] | simp only [(_h : (_ : Bool) = _)] | simp only [decide_eq_true _h] | skip)

/-- Which joint is the best one, by its place. -/
def IsBest (a b : List Str) (l : List Joint) (i : Nat) (k : Int) : Prop := -1 ≤ k ∧ k < i ∧ (k < 0 → bestJ a b (l.take i) = zJ) ∧ (0 ≤ k → bestJ a b (l.take i) = nth l k.toNat)
/-- ablaut/ablautref13.sandhi: 3 parameters, 0 captured -/
def s72 : SC := .seq (.reg [o1 6 (.mv (.c (.slice none 0 0)))])
  (.seq (.reg [o1 7 (.mv (cI (-1)))])
   (.seq (.seq (.reg [o1 8 (.mv (cI 0))])
     (.block 0 (.loop (.seq (.seq (.reg [o1 10 (.mv (.t 8)),
          o1 11 (.mv (.t 0)),
          o1 12 (.lenL (.t 11)),
          o1 13 (.bin .lss (.t 10) (.t 12))])
         (.cond (.t 13) (.skip) (.exit 0)))
        (.seq (.block 1 (.seq (.regC [(false, o1 16 (.mv (.t 1))),
            (false, o1 17 (.mv (.t 0))),
            (false, o1 18 (.mv (.t 8))),
            (false, o1 19 (.iaddr 3 (.t 17) (.t 18))),
            (false, o1 20 (.faddr 0 (.t 19))),
            (false, o1 21 (.load none (.t 20))),
            (true, o1 22 (.call (.f 115) [(.t 16), (.t 21)])),
            (false, o1 23 (.mv (.t 22))),
            (false, oT 24 (.mv (.t 2)) 23),
            (false, oT 25 (.mv (.t 0)) 23),
            (false, oT 26 (.mv (.t 8)) 23),
            (false, oT 27 (.iaddr 3 (.t 25) (.t 26)) 23),
            (false, oT 28 (.faddr 1 (.t 27)) 23),
            (false, oT 29 (.load none (.t 28)) 23),
            (true, oT 30 (.call (.f 84) [(.t 24), (.t 29)]) 23),
            (false, o1 31 (.pick (.t 23) (.t 30) (cB false))),
            (false, o1 32 (.mv (.t 31))),
            (false, oT 33 (.mv (.t 7)) 32),
            (false, oT 34 (.bin .lss (.t 33) (cI 0)) 32),
            (false, oT 35 (.mv (.t 34)) 32),
            (false, oF 36 (.mv (.t 0)) 35),
            (false, oF 37 (.mv (.t 8)) 35),
            (false, oF 38 (.iaddr 3 (.t 36) (.t 37)) 35),
            (false, oF 39 (.faddr 0 (.t 38)) 35),
            (false, oF 40 (.load none (.t 39)) 35),
            (false, oF 41 (.lenL (.t 40)) 35),
            (false, oF 42 (.mv (.t 0)) 35),
            (false, oF 43 (.mv (.t 8)) 35),
            (false, oF 44 (.iaddr 3 (.t 42) (.t 43)) 35),
            (false, oF 45 (.faddr 1 (.t 44)) 35),
            (false, oF 46 (.load none (.t 45)) 35),
            (false, oF 47 (.lenL (.t 46)) 35),
            (false, oF 48 (.bin .add (.t 41) (.t 47)) 35),
            (false, oF 49 (.mv (.t 0)) 35),
            (false, oF 50 (.mv (.t 7)) 35),
            (false, oF 51 (.iaddr 3 (.t 49) (.t 50)) 35),
            (false, oF 52 (.faddr 0 (.t 51)) 35),
            (false, oF 53 (.load none (.t 52)) 35),
            (false, oF 54 (.lenL (.t 53)) 35),
            (false, oF 55 (.mv (.t 0)) 35),
            (false, oF 56 (.mv (.t 7)) 35),
            (false, oF 57 (.iaddr 3 (.t 55) (.t 56)) 35),
            (false, oF 58 (.faddr 1 (.t 57)) 35),
            (false, oF 59 (.load none (.t 58)) 35),
            (false, oF 60 (.lenL (.t 59)) 35),
            (false, oF 61 (.bin .add (.t 54) (.t 60)) 35),
            (false, oF 62 (.bin .gtr (.t 48) (.t 61)) 35),
            (false, oT 63 (.pick (.t 35) (cB true) (.t 62)) 32),
            (false, o1 64 (.pick (.t 32) (.t 63) (cB false)))])
           (.cond (.t 64) (.reg [o1 65 (.mv (.t 8)),
             o1 7 (.mv (.t 65))]) (.skip))))
         (.reg [o1 14 (.mv (.t 8)),
          o1 15 (.bin .add (.t 14) (cI 1)),
          o1 8 (.mv (.t 15))]))))))
    (.seq (.seq (.reg [o1 66 (.mv (.t 7)),
       o1 67 (.bin .lss (.t 66) (cI 0))])
      (.cond (.t 67) (.seq (.reg [o1 68 (.mv (.t 1)),
         o1 69 (.mv (.t 2)),
         o1 70 (.call (.f 28) [(.t 68), (.t 69)]),
         o1 6 (.mv (.t 70))])
        (.ret)) (.skip)))
     (.seq (.reg [o1 71 (.mv (.t 0)),
       o1 72 (.mv (.t 7)),
       o1 73 (.iaddr 3 (.t 71) (.t 72)),
       o1 74 (.load (some 3) (.t 73)),
       o1 9 (.alloc 83 3 [(.slice none 0 0), (.slice none 0 0), (.slice none 0 0)]),
       o0 (.store 3 (.t 9) (.t 74))])
      (.seq (.regC [(false, o1 75 (.mv (.t 1))),
        (false, o1 76 (.mv (.t 1))),
        (false, o1 77 (.lenL (.t 76))),
        (false, o1 78 (.faddr 0 (.t 9))),
        (false, o1 79 (.load none (.t 78))),
        (false, o1 80 (.lenL (.t 79))),
        (false, o1 81 (.bin .sub (.t 77) (.t 80))),
        (false, o1 82 (.sl 1 (.t 75) none (some (.t 81)))),
        (false, o1 83 (.faddr 2 (.t 9))),
        (false, o1 84 (.load none (.t 83))),
        (false, o1 85 (.call (.f 28) [(.t 82), (.t 84)])),
        (false, o1 86 (.mv (.t 2))),
        (false, o1 87 (.faddr 1 (.t 9))),
        (false, o1 88 (.load none (.t 87))),
        (false, o1 89 (.lenL (.t 88))),
        (false, o1 90 (.sl 1 (.t 86) (some (.t 89)) none)),
        (true, o1 91 (.call (.f 28) [(.t 85), (.t 90)])),
        (false, o1 6 (.mv (.t 91)))])
       (.ret))))))
theorem s72_ok : lookF Try.prog 72 = some (s72, 92, [.tmp 6]) := by kernel_rfl
set_option maxHeartbeats 2000000 in
theorem sandhi_ok (l : List Joint) (a b : List Str) (hl : ∀ j ∈ l, j.1.length ≤ 1000 ∧ j.2.1.length ≤ 1000 ∧ j.2.2.length ≤ 1000) (hz : ∀ j ∈ l, 0 < wtJ j) (ha : a.length ≤ 1000000) (hb : b.length ≤ 1000000) : Fn P 72 [sl l, sl a, sl b] (sl (joinL l a b)) := by
  (refine fn_look s72_ok (by simp) (by intro k; simp only [go_sem, Nat.reduceEqDiff, ↓reduceIte, reduceCtorEq, Nat.reduceAdd, Nat.reduceMul, Int.reduceToNat, List.reduceReplicate, Nat.reduceLeDiff, Nat.reduceLT, Int.reduceLT, Int.reduceLE, Int.reduceEq]) fun S hS => cwp_sound _ _ _ _ ?_; simp (maxSteps := 900000) (disch := omega) only [s72, go_sem, Nat.reduceEqDiff, ↓reduceIte, reduceCtorEq, Nat.reduceAdd, Nat.reduceMul, Int.reduceToNat, List.reduceReplicate, Nat.reduceLeDiff, Nat.reduceLT, Int.reduceLT, Int.reduceLE, Int.reduceEq])
  repeat' (first | with_reducible refine inw ?_ | simp (maxSteps := 900000) (disch := omega) only [go_sem, Nat.reduceEqDiff, ↓reduceIte, reduceCtorEq, Nat.reduceAdd, Nat.reduceMul, Int.reduceToNat, List.reduceReplicate, Nat.reduceLeDiff, Nat.reduceLT, Int.reduceLT, Int.reduceLE, Int.reduceEq] | with_reducible refine pickB_f ?_ | with_reducible refine giv_intro fun _h => ?_ | with_reducible refine alt_intro ?_ fun _h => ?_ | with_reducible refine pickD_nil ?_ | (with_reducible refine brc (fun _h => ?_) fun _h => ?_) <;> first | (exfalso; omega) | simp only [decide_eq_false _h] | simp only [(_h : (_ : Bool) = _)] | simp only [decide_eq_true _h] | skip)
  (refine loopC hS [0, 1, 2] (by simp only [go_sem, Nat.reduceEqDiff, ↓reduceIte, reduceCtorEq, Nat.reduceAdd, Nat.reduceMul, Int.reduceToNat, List.reduceReplicate, Nat.reduceLeDiff, Nat.reduceLT, Int.reduceLT, Int.reduceLE, Int.reduceEq]; try rfl) (fun (⟨i, k⟩ : Nat × Int) => [(7, intA k), (8, intA i)]) (fun (⟨i, k⟩ : Nat × Int) => []) (fun (⟨i, k⟩ : Nat × Int) => i ≤ l.length ∧ IsBest a b l i k) (fun (⟨i, k⟩ : Nat × Int) => l.length - i) ((0, -1)) ?_ (by intro s; first | (simp only [List.length_cons, List.length_nil]; done) | rfl | (rcases s with ⟨_, _⟩; rfl) | (rcases s with ⟨_, _, _⟩; rfl) | (rcases s with ⟨_, _, _, _⟩; rfl) | (rcases s with ⟨_, _, _, _, _⟩; rfl)) ?_)
  · simp (maxSteps := 900000) (disch := omega) only [go_sem, Nat.reduceEqDiff, ↓reduceIte, reduceCtorEq, Nat.reduceAdd, Nat.reduceMul, Int.reduceToNat, List.reduceReplicate, Nat.reduceLeDiff, Nat.reduceLT, Int.reduceLT, Int.reduceLE, Int.reduceEq]
    exact ⟨Nat.zero_le _, by omega, by omega, fun _ => rfl, fun h => by omega⟩
  rintro ⟨i, k⟩ ⟨hi, hk⟩
  replace hi : i ≤ l.length := hi
  replace hk : IsBest a b l i k := hk
  obtain ⟨k1, k2, k3, k4⟩ := hk
  by_cases hil : i < l.length
  · have hj := hl _ (nth_mem hil)
    have hzj := hz _ (nth_mem hil)
    have sb := bestJ_step a b hil
    have d1 := rEnd_ok a (nth l i).1 (by omega) (by omega)
    have d2 := rBegin_ok b (nth l i).2.1
    by_cases hk0 : k < 0
    · rw [k3 hk0] at sb
      repeat' (first | with_reducible refine inw ?_ | simp (maxSteps := 900000) (disch := omega) only [go_sem, Nat.reduceEqDiff, ↓reduceIte, reduceCtorEq, Nat.reduceAdd, Nat.reduceMul, Int.reduceToNat, List.reduceReplicate, Nat.reduceLeDiff, Nat.reduceLT, Int.reduceLT, Int.reduceLE, Int.reduceEq] | (with_reducible apply call_D (d1)); (focus simp (maxSteps := 900000) (disch := omega) only [go_sem, Nat.reduceEqDiff, ↓reduceIte, reduceCtorEq, Nat.reduceAdd, Nat.reduceMul, Int.reduceToNat, List.reduceReplicate, Nat.reduceLeDiff, Nat.reduceLT, Int.reduceLT, Int.reduceLE, Int.reduceEq] <;> rfl) | (with_reducible apply call_D (d2)); (focus simp (maxSteps := 900000) (disch := omega) only [go_sem, Nat.reduceEqDiff, ↓reduceIte, reduceCtorEq, Nat.reduceAdd, Nat.reduceMul, Int.reduceToNat, List.reduceReplicate, Nat.reduceLeDiff, Nat.reduceLT, Int.reduceLT, Int.reduceLE, Int.reduceEq] <;> rfl) | with_reducible refine pickB_f ?_ | with_reducible refine giv_intro fun _h => ?_ | with_reducible refine alt_intro ?_ fun _h => ?_ | with_reducible refine pickD_nil ?_ | (with_reducible refine brc (fun _h => ?_) fun _h => ?_) <;> first | (exfalso; omega) | simp only [decide_eq_false _h] | simp only [(_h : (_ : Bool) = _)] | simp only [decide_eq_true _h] | skip)
      · refine ⟨(i + 1, (i : Int)), ?_⟩
        dsimp only
        refine ⟨⟨by omega, by omega, by omega, by omega, fun h => by omega, fun _ => ?_⟩, rfl, by omega⟩
        rw [sb, pickJ, if_pos ⟨by simp only [Bool.and_eq_true]; exact ⟨by assumption, by assumption⟩, by simpa [zJ, wtJ] using hzj⟩]; rfl
      all_goals
        refine ⟨(i + 1, k), ?_⟩
        dsimp only
        refine ⟨⟨by omega, by omega, by omega, by omega, fun _ => ?_, fun h => by omega⟩, rfl, by omega⟩
        rw [sb, pickJ, if_neg]
        rintro ⟨g1, g2⟩
        simp only [Bool.and_eq_true] at g1
        simp_all
    · have hkl : k.toNat < l.length := by omega
      have hjk := hl _ (nth_mem hkl)
      rw [k4 (by omega)] at sb
      repeat' (first | with_reducible refine inw ?_ | simp (maxSteps := 900000) (disch := omega) only [go_sem, Nat.reduceEqDiff, ↓reduceIte, reduceCtorEq, Nat.reduceAdd, Nat.reduceMul, Int.reduceToNat, List.reduceReplicate, Nat.reduceLeDiff, Nat.reduceLT, Int.reduceLT, Int.reduceLE, Int.reduceEq] | (with_reducible apply call_D (d1)); (focus simp (maxSteps := 900000) (disch := omega) only [go_sem, Nat.reduceEqDiff, ↓reduceIte, reduceCtorEq, Nat.reduceAdd, Nat.reduceMul, Int.reduceToNat, List.reduceReplicate, Nat.reduceLeDiff, Nat.reduceLT, Int.reduceLT, Int.reduceLE, Int.reduceEq] <;> rfl) | (with_reducible apply call_D (d2)); (focus simp (maxSteps := 900000) (disch := omega) only [go_sem, Nat.reduceEqDiff, ↓reduceIte, reduceCtorEq, Nat.reduceAdd, Nat.reduceMul, Int.reduceToNat, List.reduceReplicate, Nat.reduceLeDiff, Nat.reduceLT, Int.reduceLT, Int.reduceLE, Int.reduceEq] <;> rfl) | with_reducible refine pickB_f ?_ | with_reducible refine giv_intro fun _h => ?_ | with_reducible refine alt_intro ?_ fun _h => ?_ | with_reducible refine pickD_nil ?_ | (with_reducible refine brc (fun _h => ?_) fun _h => ?_) <;> first | (exfalso; omega) | simp only [decide_eq_false _h] | simp only [(_h : (_ : Bool) = _)] | simp only [decide_eq_true _h] | skip)
      · refine ⟨(i + 1, (i : Int)), ?_⟩
        dsimp only
        refine ⟨⟨by omega, by omega, by omega, by omega, fun h => by omega, fun _ => ?_⟩, rfl, by omega⟩
        rw [sb, pickJ, if_pos ⟨by simp only [Bool.and_eq_true]; exact ⟨by assumption, by assumption⟩, by simp only [wtJ]; omega⟩]; rfl
      all_goals
        refine ⟨(i + 1, k), ?_⟩
        dsimp only
        refine ⟨⟨by omega, by omega, by omega, by omega, fun h => by omega, fun _ => ?_⟩, rfl, by omega⟩
        rw [sb, pickJ, if_neg]
        rintro ⟨g1, g2⟩
        simp only [Bool.and_eq_true] at g1
        simp only [wtJ] at g2
        first
          | omega
          | (simp_all; done)
  · have hzz : l.take i = l := List.take_of_length_le (by omega)
    rw [hzz] at k3 k4
    have fit := bestJ_fit a b hl l.length (Nat.le_refl _)
    rw [List.take_length] at fit
    obtain ⟨f1, f2, f3⟩ := fit
    by_cases hk0 : k < 0
    · have ej : joinL l a b = a ++ b := by rw [joinL, k3 hk0]; simp [zJ]
      have c1 := join_ok a b (by omega)
      rw [← ej] at c1
      repeat' (first | with_reducible refine inw ?_ | simp (maxSteps := 900000) (disch := omega) only [go_sem, Nat.reduceEqDiff, ↓reduceIte, reduceCtorEq, Nat.reduceAdd, Nat.reduceMul, Int.reduceToNat, List.reduceReplicate, Nat.reduceLeDiff, Nat.reduceLT, Int.reduceLT, Int.reduceLE, Int.reduceEq] | (with_reducible apply call (c1)); (focus simp (maxSteps := 900000) (disch := omega) only [go_sem, Nat.reduceEqDiff, ↓reduceIte, reduceCtorEq, Nat.reduceAdd, Nat.reduceMul, Int.reduceToNat, List.reduceReplicate, Nat.reduceLeDiff, Nat.reduceLT, Int.reduceLT, Int.reduceLE, Int.reduceEq] <;> rfl) | with_reducible refine pickB_f ?_ | with_reducible refine giv_intro fun _h => ?_ | with_reducible refine alt_intro ?_ fun _h => ?_ | with_reducible refine pickD_nil ?_ | (with_reducible refine brc (fun _h => ?_) fun _h => ?_) <;> first | (exfalso; omega) | simp only [decide_eq_false _h] | simp only [(_h : (_ : Bool) = _)] | simp only [decide_eq_true _h] | skip)
    · rw [k4 (by omega)] at f1 f2 f3
      have hkl : k.toNat < l.length := by omega
      have ej : joinL l a b = (a.take (a.length - (nth l k.toNat).1.length) ++ (nth l k.toNat).2.2) ++ b.drop (nth l k.toNat).2.1.length := by rw [joinL, k4 (by omega)]; simp
      have c1 := join_ok (a.take (a.length - (nth l k.toNat).1.length)) (nth l k.toNat).2.2 (by simp; omega)
      have c2 := join_ok (a.take (a.length - (nth l k.toNat).1.length) ++ (nth l k.toNat).2.2) (b.drop (nth l k.toNat).2.1.length) (by simp; omega)
      have e1 : ((a.length : Int) - (nth l k.toNat).1.length).toNat = a.length - (nth l k.toNat).1.length := by omega
      have e2 : List.take (b.length - (nth l k.toNat).2.1.length) (List.drop (nth l k.toNat).2.1.length b) = List.drop (nth l k.toNat).2.1.length b := List.take_of_length_le (by simp)
      rw [← ej] at c2
      repeat' (first | with_reducible refine inw ?_ | simp (maxSteps := 900000) (disch := omega) only [go_sem, Nat.reduceEqDiff, ↓reduceIte, reduceCtorEq, Nat.reduceAdd, Nat.reduceMul, Int.reduceToNat, List.reduceReplicate, Nat.reduceLeDiff, Nat.reduceLT, Int.reduceLT, Int.reduceLE, Int.reduceEq, e1, e2] | (with_reducible apply call_D (c1)); (focus simp (maxSteps := 900000) (disch := omega) only [go_sem, Nat.reduceEqDiff, ↓reduceIte, reduceCtorEq, Nat.reduceAdd, Nat.reduceMul, Int.reduceToNat, List.reduceReplicate, Nat.reduceLeDiff, Nat.reduceLT, Int.reduceLT, Int.reduceLE, Int.reduceEq, e1, e2] <;> rfl) | (with_reducible apply call_D (c2)); (focus simp (maxSteps := 900000) (disch := omega) only [go_sem, Nat.reduceEqDiff, ↓reduceIte, reduceCtorEq, Nat.reduceAdd, Nat.reduceMul, Int.reduceToNat, List.reduceReplicate, Nat.reduceLeDiff, Nat.reduceLT, Int.reduceLT, Int.reduceLE, Int.reduceEq, e1, e2] <;> rfl) | with_reducible refine pickB_f ?_ | with_reducible refine giv_intro fun _h => ?_ | with_reducible refine alt_intro ?_ fun _h => ?_ | with_reducible refine pickD_nil ?_ | (with_reducible refine brc (fun _h => ?_) fun _h => ?_) <;> first | (exfalso; omega) | simp only [decide_eq_false _h] | simp only [(_h : (_ : Bool) = _)] | simp only [decide_eq_true _h] | skip)
end Go.Proofs.Ytpfoflhhbkjngaa.Ev

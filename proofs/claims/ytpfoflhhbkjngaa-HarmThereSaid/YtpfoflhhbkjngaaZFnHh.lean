/- Two words joined; the law HarmJoins. -/
import Derived.Test.YtpfoflhhbkjngaaZFnHg
set_option linter.unusedVariables false
set_option linter.unusedSimpArgs false
namespace Go.Proofs.Ytpfoflhhbkjngaa.Ev
open Go Go.Proofs

def begB (w x : List Str) : Bool := decide (x.length ≤ w.length) && decide (w.take x.length = x)
def endB (w x : List Str) : Bool := decide (x.length ≤ w.length) && decide (w.drop (w.length - x.length) = x)
/-- ablaut/harm.begins: 2 parameters, 0 captured -/
def s82 : SC := .seq (.reg [o1 4 (.mv (cB false))])
  (.seq (.reg [o1 5 (.mv (.t 1)),
    o1 6 (.lenL (.t 5)),
    o1 7 (.mv (.t 0)),
    o1 8 (.lenL (.t 7)),
    o1 9 (.bin .leq (.t 6) (.t 8)),
    o1 10 (.mv (.t 9)),
    oT 11 (.mv (.t 0)) 10,
    oT 12 (.mv (.t 1)) 10,
    oT 13 (.lenL (.t 12)) 10,
    oT 14 (.sl 1 (.t 11) none (some (.t 13))) 10,
    oT 15 (.mv (.t 1)) 10,
    oT 16 (.call (.f 59) [(.t 14), (.t 15)]) 10,
    o1 17 (.pick (.t 10) (.t 16) (cB false)),
    o1 4 (.mv (.t 17))])
   (.ret))
theorem s82_ok : lookF Try.prog 82 = some (s82, 18, [.tmp 4]) := by kernel_rfl
theorem hBegins_ok (w x : List Str) : Fn P 82 [sl w, sl x] (boolA (begB w x)) := by
  (refine fn_look s82_ok (by simp) (by intro k; simp only [go_sem, Nat.reduceEqDiff, ↓reduceIte, reduceCtorEq, Nat.reduceAdd, Nat.reduceMul, Int.reduceToNat, List.reduceReplicate, Nat.reduceLeDiff, Nat.reduceLT, Int.reduceLT, Int.reduceLE, Int.reduceEq]) fun S hS => cwp_sound _ _ _ _ ?_; simp (maxSteps := 900000) (disch := omega) only [s82, go_sem, Nat.reduceEqDiff, ↓reduceIte, reduceCtorEq, Nat.reduceAdd, Nat.reduceMul, Int.reduceToNat, List.reduceReplicate, Nat.reduceLeDiff, Nat.reduceLT, Int.reduceLT, Int.reduceLE, Int.reduceEq])
  repeat' (first | with_reducible refine inw ?_ | simp (maxSteps := 900000) (disch := omega) only [go_sem, Nat.reduceEqDiff, ↓reduceIte, reduceCtorEq, Nat.reduceAdd, Nat.reduceMul, Int.reduceToNat, List.reduceReplicate, Nat.reduceLeDiff, Nat.reduceLT, Int.reduceLT, Int.reduceLE, Int.reduceEq] | (with_reducible apply call (Equal_ok _ _)); (focus simp (maxSteps := 900000) (disch := omega) only [go_sem, Nat.reduceEqDiff, ↓reduceIte, reduceCtorEq, Nat.reduceAdd, Nat.reduceMul, Int.reduceToNat, List.reduceReplicate, Nat.reduceLeDiff, Nat.reduceLT, Int.reduceLT, Int.reduceLE, Int.reduceEq] <;> rfl) | with_reducible refine pickB_f ?_ | with_reducible refine giv_intro fun _h => ?_ | with_reducible refine alt_intro ?_ fun _h => ?_ | with_reducible refine pickD_nil ?_ | (with_reducible refine brc (fun _h => ?_) fun _h => ?_) <;> first | (exfalso; omega) | simp only [decide_eq_false _h] | simp only [(_h : (_ : Bool) = _)] | simp only [decide_eq_true _h] | skip)
  · rw [begB, decide_eq_true (p := x.length ≤ w.length) (by omega), Bool.true_and]; rfl
  · rw [begB, decide_eq_false (p := x.length ≤ w.length) (by omega), Bool.false_and]
def heldE (w : List Str) : Int := if 60 < w.length then 3 else 0
def heldV (w : List Str) : List Str := if 60 < w.length then [] else w
/-- ablaut/harm.held: 1 parameters, 0 captured -/
def s68 : SC := .seq (.reg [o1 2 (.mv (.c (.slice none 0 0))),
   o1 3 (.mv (cI 0))])
  (.seq (.seq (.reg [o1 4 (.mv (.t 0)),
     o1 5 (.lenL (.t 4)),
     o1 6 (.bin .gtr (.t 5) (cI 60))])
    (.cond (.t 6) (.seq (.reg [o1 2 (.mv (.c (.slice none 0 0))),
       o1 3 (.mv (cI 3))])
      (.ret)) (.skip)))
   (.seq (.reg [o1 7 (.mv (.t 0)),
     o1 2 (.mv (.t 7)),
     o1 3 (.mv (cI 0))])
    (.ret)))
theorem s68_ok : lookF Try.prog 68 = some (s68, 8, [.tmp 2, .tmp 3]) := by kernel_rfl
theorem held_ok (w : List Str) : Fn P 68 [sl w] (.tup [sl (heldV w), intA (heldE w)]) := by
  by_cases h : 60 < w.length
  · rw [heldE, heldV, if_pos h, if_pos h]
    (refine fn_look s68_ok (by simp) (by intro k; simp only [go_sem, Nat.reduceEqDiff, ↓reduceIte, reduceCtorEq, Nat.reduceAdd, Nat.reduceMul, Int.reduceToNat, List.reduceReplicate, Nat.reduceLeDiff, Nat.reduceLT, Int.reduceLT, Int.reduceLE, Int.reduceEq]) fun S hS => cwp_sound _ _ _ _ ?_; simp (maxSteps := 900000) (disch := omega) only [s68, go_sem, Nat.reduceEqDiff, ↓reduceIte, reduceCtorEq, Nat.reduceAdd, Nat.reduceMul, Int.reduceToNat, List.reduceReplicate, Nat.reduceLeDiff, Nat.reduceLT, Int.reduceLT, Int.reduceLE, Int.reduceEq])
    repeat' (first | with_reducible refine inw ?_ | simp (maxSteps := 900000) (disch := omega) only [go_sem, Nat.reduceEqDiff, ↓reduceIte, reduceCtorEq, Nat.reduceAdd, Nat.reduceMul, Int.reduceToNat, List.reduceReplicate, Nat.reduceLeDiff, Nat.reduceLT, Int.reduceLT, Int.reduceLE, Int.reduceEq] | with_reducible refine pickB_f ?_ | with_reducible refine giv_intro fun _h => ?_ | with_reducible refine alt_intro ?_ fun _h => ?_ | with_reducible refine pickD_nil ?_ | (with_reducible refine brc (fun _h => ?_) fun _h => ?_) <;> first | (exfalso; omega) | simp only [decide_eq_false _h] | simp only [(_h : (_ : Bool) = _)] | simp only [decide_eq_true _h] | skip)
    rfl
  · rw [heldE, heldV, if_neg h, if_neg h]
    (refine fn_look s68_ok (by simp) (by intro k; simp only [go_sem, Nat.reduceEqDiff, ↓reduceIte, reduceCtorEq, Nat.reduceAdd, Nat.reduceMul, Int.reduceToNat, List.reduceReplicate, Nat.reduceLeDiff, Nat.reduceLT, Int.reduceLT, Int.reduceLE, Int.reduceEq]) fun S hS => cwp_sound _ _ _ _ ?_; simp (maxSteps := 900000) (disch := omega) only [s68, go_sem, Nat.reduceEqDiff, ↓reduceIte, reduceCtorEq, Nat.reduceAdd, Nat.reduceMul, Int.reduceToNat, List.reduceReplicate, Nat.reduceLeDiff, Nat.reduceLT, Int.reduceLT, Int.reduceLE, Int.reduceEq])
    repeat' (first | with_reducible refine inw ?_ | simp (maxSteps := 900000) (disch := omega) only [go_sem, Nat.reduceEqDiff, ↓reduceIte, reduceCtorEq, Nat.reduceAdd, Nat.reduceMul, Int.reduceToNat, List.reduceReplicate, Nat.reduceLeDiff, Nat.reduceLT, Int.reduceLT, Int.reduceLE, Int.reduceEq] | with_reducible refine pickB_f ?_ | with_reducible refine giv_intro fun _h => ?_ | with_reducible refine alt_intro ?_ fun _h => ?_ | with_reducible refine pickD_nil ?_ | (with_reducible refine brc (fun _h => ?_) fun _h => ?_) <;> first | (exfalso; omega) | simp only [decide_eq_false _h] | simp only [(_h : (_ : Bool) = _)] | simp only [decide_eq_true _h] | skip)
theorem wk_nilsl {α : Type} {k : Nat} [Enc α k] : Wk (.sc (.slice none 0 0)) (sl ([] : List α)) := fun G v h => by have := wk_nil; exact (of_eq_true this) G v h
/-- The joint that is taken. -/
def pickJ (a b : List Str) (best j : Joint) : Joint := if (endB a j.1 && begB b j.2.1) = true ∧ wtJ best < wtJ j then j else best
def zJ : Joint := ([], [], [])
def bestJ (a b : List Str) (l : List Joint) : Joint := l.foldl (pickJ a b) zJ
theorem bestJ_step (a b : List Str) {l : List Joint} {i : Nat} (h : i < l.length) : bestJ a b (l.take (i + 1)) = pickJ a b (bestJ a b (l.take i)) (nth l i) := by
  rw [bestJ, List.take_add_one, nth_get? h]; simp [bestJ]
structure FitJ (a b : List Str) (j : Joint) : Prop where
  h1 : j.1.length ≤ a.length
  h2 : j.2.1.length ≤ b.length
  h3 : j.1.length ≤ 1000 ∧ j.2.1.length ≤ 1000 ∧ j.2.2.length ≤ 1000
theorem bestJ_fit (a b : List Str) {l : List Joint} (hl : ∀ j ∈ l, j.1.length ≤ 1000 ∧ j.2.1.length ≤ 1000 ∧ j.2.2.length ≤ 1000) : ∀ i, i ≤ l.length → FitJ a b (bestJ a b (l.take i))
  | 0, _ => ⟨by simp [bestJ, zJ], by simp [bestJ, zJ], by simp [bestJ, zJ]⟩
  | i + 1, hi => by
    rw [bestJ_step a b (by omega), pickJ]
    split
    · rename_i h
      simp only [endB, begB, Bool.and_eq_true, decide_eq_true_eq] at h
      exact ⟨h.1.1.1, h.1.2.1, hl _ (nth_mem (by omega))⟩
    · exact bestJ_fit a b hl i (by omega)
def joinL (l : List Joint) (a b : List Str) : List Str := a.take (a.length - (bestJ a b l).1.length) ++ ((bestJ a b l).2.2 ++ b.drop (bestJ a b l).2.1.length)
/-- ablaut/harm.joined: 3 parameters, 0 captured -/
def s69 : SC := .seq (.reg [o1 6 (.mv (.c (.slice none 0 0)))])
  (.seq (.reg [o1 7 (.alloc 83 3 [(.slice none 0 0), (.slice none 0 0), (.slice none 0 0)])])
   (.seq (.seq (.reg [o1 11 (.mv (.t 0)),
      o1 12 (.lenL (.t 11)),
      o1 13 (.mv (cI 0))])
     (.block 0 (.loop (.seq (.reg [o1 14 (.bin .lss (.t 13) (.t 12))])
        (.seq (.cond (.t 14) (.skip) (.exit 0))
         (.seq (.block 1 (.seq (.reg [o1 15 (.iaddr 3 (.t 11) (.t 13)),
             o1 16 (.load (some 3) (.t 15)),
             o1 9 (.alloc 83 3 [(.slice none 0 0), (.slice none 0 0), (.slice none 0 0)]),
             o0 (.store 3 (.t 9) (.t 16))])
            (.seq (.regC [(false, o1 17 (.faddr 0 (.t 9))),
              (false, o1 18 (.load none (.t 17))),
              (false, o1 19 (.lenL (.t 18))),
              (false, o1 20 (.mv (.t 1))),
              (false, o1 21 (.lenL (.t 20))),
              (false, o1 22 (.bin .leq (.t 19) (.t 21))),
              (false, o1 23 (.mv (.t 22))),
              (false, oT 24 (.mv (.t 1)) 23),
              (false, oT 25 (.mv (.t 1)) 23),
              (false, oT 26 (.lenL (.t 25)) 23),
              (false, oT 27 (.faddr 0 (.t 9)) 23),
              (false, oT 28 (.load none (.t 27)) 23),
              (false, oT 29 (.lenL (.t 28)) 23),
              (false, oT 30 (.bin .sub (.t 26) (.t 29)) 23),
              (false, oT 31 (.sl 1 (.t 24) (some (.t 30)) none) 23),
              (false, oT 32 (.faddr 0 (.t 9)) 23),
              (false, oT 33 (.load none (.t 32)) 23),
              (true, oT 34 (.call (.f 59) [(.t 31), (.t 33)]) 23),
              (false, o1 35 (.pick (.t 23) (.t 34) (cB false))),
              (false, o1 10 (.mv (.t 35)))])
             (.seq (.reg [o1 36 (.mv (.t 10)),
               o1 37 (.mv (.t 36)),
               oT 38 (.mv (.t 2)) 37,
               oT 39 (.faddr 1 (.t 9)) 37,
               oT 40 (.load none (.t 39)) 37,
               oT 41 (.call (.f 82) [(.t 38), (.t 40)]) 37,
               o1 42 (.pick (.t 37) (.t 41) (cB false)),
               o1 43 (.mv (.t 42)),
               oT 44 (.faddr 0 (.t 9)) 43,
               oT 45 (.load none (.t 44)) 43,
               oT 46 (.lenL (.t 45)) 43,
               oT 47 (.faddr 1 (.t 9)) 43,
               oT 48 (.load none (.t 47)) 43,
               oT 49 (.lenL (.t 48)) 43,
               oT 50 (.bin .add (.t 46) (.t 49)) 43,
               oT 51 (.faddr 0 (.t 7)) 43,
               oT 52 (.load none (.t 51)) 43,
               oT 53 (.lenL (.t 52)) 43,
               oT 54 (.faddr 1 (.t 7)) 43,
               oT 55 (.load none (.t 54)) 43,
               oT 56 (.lenL (.t 55)) 43,
               oT 57 (.bin .add (.t 53) (.t 56)) 43,
               oT 58 (.bin .gtr (.t 50) (.t 57)) 43,
               o1 59 (.pick (.t 43) (.t 58) (cB false))])
              (.cond (.t 59) (.reg [o1 60 (.load (some 3) (.t 9)),
                o0 (.store 3 (.t 7) (.t 60))]) (.skip))))))
          (.reg [o1 61 (.bin .add (.t 13) (cI 1)),
           o1 13 (.mv (.t 61))])))))))
    (.seq (.regC [(false, o1 62 (.mv (.t 1))),
      (false, o1 63 (.mv (.t 1))),
      (false, o1 64 (.lenL (.t 63))),
      (false, o1 65 (.faddr 0 (.t 7))),
      (false, o1 66 (.load none (.t 65))),
      (false, o1 67 (.lenL (.t 66))),
      (false, o1 68 (.bin .sub (.t 64) (.t 67))),
      (false, o1 69 (.sl 1 (.t 62) none (some (.t 68)))),
      (false, o1 70 (.faddr 2 (.t 7))),
      (false, o1 71 (.load none (.t 70))),
      (false, o1 72 (.mv (.t 2))),
      (false, o1 73 (.faddr 1 (.t 7))),
      (false, o1 74 (.load none (.t 73))),
      (false, o1 75 (.lenL (.t 74))),
      (false, o1 76 (.sl 1 (.t 72) (some (.t 75)) none)),
      (false, o1 77 (.buildSl 22 1 3 [(.slice none 0 0)] [(0, 1, (.t 69)), (1, 1, (.t 71)), (2, 1, (.t 76))])),
      (true, o1 78 (.call (.f 75) [(.t 77)])),
      (false, o1 6 (.mv (.t 78)))])
     (.ret))))
theorem s69_ok : lookF Try.prog 69 = some (s69, 79, [.tmp 6]) := by kernel_rfl
set_option maxHeartbeats 2000000 in
theorem joined_ok (l : List Joint) (a b : List Str) (hl : ∀ j ∈ l, j.1.length ≤ 1000 ∧ j.2.1.length ≤ 1000 ∧ j.2.2.length ≤ 1000) (ha : a.length ≤ 1000000) (hb : b.length ≤ 1000000) : Fn P 69 [sl l, sl a, sl b] (sl (joinL l a b)) := by
  (refine fn_look s69_ok (by simp) (by intro k; simp only [go_sem, Nat.reduceEqDiff, ↓reduceIte, reduceCtorEq, Nat.reduceAdd, Nat.reduceMul, Int.reduceToNat, List.reduceReplicate, Nat.reduceLeDiff, Nat.reduceLT, Int.reduceLT, Int.reduceLE, Int.reduceEq]) fun S hS => cwp_sound _ _ _ _ ?_; simp (maxSteps := 900000) (disch := omega) only [s69, go_sem, Nat.reduceEqDiff, ↓reduceIte, reduceCtorEq, Nat.reduceAdd, Nat.reduceMul, Int.reduceToNat, List.reduceReplicate, Nat.reduceLeDiff, Nat.reduceLT, Int.reduceLT, Int.reduceLE, Int.reduceEq])
  repeat' (first | with_reducible refine inw ?_ | simp (maxSteps := 900000) (disch := omega) only [go_sem, Nat.reduceEqDiff, ↓reduceIte, reduceCtorEq, Nat.reduceAdd, Nat.reduceMul, Int.reduceToNat, List.reduceReplicate, Nat.reduceLeDiff, Nat.reduceLT, Int.reduceLT, Int.reduceLE, Int.reduceEq] | with_reducible refine pickB_f ?_ | with_reducible refine giv_intro fun _h => ?_ | with_reducible refine alt_intro ?_ fun _h => ?_ | with_reducible refine pickD_nil ?_ | (with_reducible refine brc (fun _h => ?_) fun _h => ?_) <;> first | (exfalso; omega) | simp only [decide_eq_false _h] | simp only [(_h : (_ : Bool) = _)] | simp only [decide_eq_true _h] | skip)
  refine retype 0 83 [zJ] rfl (by simp only [cellsL_cons, cellsL_nil, cells_p3, cells_l, zJ]; simp (maxSteps := 900000) (disch := omega) only [go_sem, Nat.reduceEqDiff, ↓reduceIte, reduceCtorEq, Nat.reduceAdd, Nat.reduceMul, Int.reduceToNat, List.reduceReplicate, Nat.reduceLeDiff, Nat.reduceLT, Int.reduceLT, Int.reduceLE, Int.reduceEq]; exact ⟨wk_nilsl, wk_nilsl, wk_nilsl⟩) ?_
  simp only [List.set_cons_zero]
  (refine loopC hS [1, 2, 7, 11, 12] (by simp only [go_sem, Nat.reduceEqDiff, ↓reduceIte, reduceCtorEq, Nat.reduceAdd, Nat.reduceMul, Int.reduceToNat, List.reduceReplicate, Nat.reduceLeDiff, Nat.reduceLT, Int.reduceLT, Int.reduceLE, Int.reduceEq]; try rfl) (fun (i : Nat) => [(13, intA i)]) (fun (i : Nat) => [rowO 83 [bestJ a b (l.take i)]]) (fun (i : Nat) => i ≤ l.length) (fun (i : Nat) => l.length - i) (0) ?_ (by intro s; first | rfl | (rcases s with ⟨_, _⟩; rfl) | (rcases s with ⟨_, _, _⟩; rfl) | (rcases s with ⟨_, _, _, _⟩; rfl) | (rcases s with ⟨_, _, _, _, _⟩; rfl)) ?_)
  · simp (maxSteps := 900000) (disch := omega) only [go_sem, Nat.reduceEqDiff, ↓reduceIte, reduceCtorEq, Nat.reduceAdd, Nat.reduceMul, Int.reduceToNat, List.reduceReplicate, Nat.reduceLeDiff, Nat.reduceLT, Int.reduceLT, Int.reduceLE, Int.reduceEq]; simp [bestJ]
  rintro i hi
  replace hi : i ≤ l.length := hi
  have fit := bestJ_fit a b hl i hi
  obtain ⟨f1, f2, f3⟩ := fit
  have sb : i < l.length → bestJ a b (l.take (i + 1)) = pickJ a b (bestJ a b (l.take i)) (nth l i) := fun h => bestJ_step a b h
  generalize hbj : bestJ a b (l.take i) = bj at *
  by_cases hil : i < l.length
  · have hj := hl _ (nth_mem hil)
    have e1 : (nth l i).1.length ≤ a.length → ((a.length : Int) - (nth l i).1.length).toNat = a.length - (nth l i).1.length := fun h => by omega
    have e2 : List.take (a.length - (a.length - (nth l i).1.length)) (List.drop (a.length - (nth l i).1.length) a) = List.drop (a.length - (nth l i).1.length) a := List.take_of_length_le (by simp)
    have d1 := Equal_ok (List.drop (a.length - (nth l i).1.length) a) (nth l i).1
    have c1 := hBegins_ok b (nth l i).2.1
    repeat' (first | with_reducible refine inw ?_ | simp (maxSteps := 900000) (disch := omega) only [go_sem, Nat.reduceEqDiff, ↓reduceIte, reduceCtorEq, Nat.reduceAdd, Nat.reduceMul, Int.reduceToNat, List.reduceReplicate, Nat.reduceLeDiff, Nat.reduceLT, Int.reduceLT, Int.reduceLE, Int.reduceEq, e1, e2] | (with_reducible apply call_D (d1)); (focus simp (maxSteps := 900000) (disch := omega) only [go_sem, Nat.reduceEqDiff, ↓reduceIte, reduceCtorEq, Nat.reduceAdd, Nat.reduceMul, Int.reduceToNat, List.reduceReplicate, Nat.reduceLeDiff, Nat.reduceLT, Int.reduceLT, Int.reduceLE, Int.reduceEq, e1, e2] <;> rfl) | (with_reducible apply call (c1)); (focus simp (maxSteps := 900000) (disch := omega) only [go_sem, Nat.reduceEqDiff, ↓reduceIte, reduceCtorEq, Nat.reduceAdd, Nat.reduceMul, Int.reduceToNat, List.reduceReplicate, Nat.reduceLeDiff, Nat.reduceLT, Int.reduceLT, Int.reduceLE, Int.reduceEq, e1, e2] <;> rfl) | with_reducible refine pickB_f ?_ | with_reducible refine giv_intro fun _h => ?_ | with_reducible refine alt_intro ?_ fun _h => ?_ | with_reducible refine pickD_nil ?_ | (with_reducible refine brc (fun _h => ?_) fun _h => ?_) <;> first | (exfalso; omega) | simp only [decide_eq_false _h] | simp only [(_h : (_ : Bool) = _)] | simp only [decide_eq_true _h] | skip)
    · have e : bestJ a b (l.take (i + 1)) = nth l i := by
        rw [sb hil, pickJ, if_pos]
        exact ⟨by simp only [endB, Bool.and_eq_true, decide_eq_true_eq]; exact ⟨⟨by omega, by assumption⟩, by assumption⟩, by simp only [wtJ]; omega⟩
      exact ⟨i + 1, ⟨by omega, by omega⟩, by omega, by rw [e]⟩
    all_goals
      have e : bestJ a b (l.take (i + 1)) = bj := by
        rw [sb hil, pickJ, if_neg]
        simp only [endB, wtJ, Bool.and_eq_true, decide_eq_true_eq]
        rintro ⟨⟨⟨g1, g2⟩, g3⟩, g4⟩
        first
          | omega
          | (rw [g3] at _h; cases _h)
          | exact absurd g2 (by assumption)
      exact ⟨i + 1, ⟨by omega, by omega⟩, by omega, by rw [e]⟩
  · have hz : l.take i = l := List.take_of_length_le (by omega)
    rw [hz] at hbj
    have ej : joinL l a b = List.flatten [a.take (a.length - bj.1.length), bj.2.2, b.drop bj.2.1.length] := by rw [joinL, hbj]; simp
    have k1 := concatS_ok [a.take (a.length - bj.1.length), bj.2.2, b.drop bj.2.1.length] (by simp) (by simp; omega)
    have e1 : ((a.length : Int) - bj.1.length).toNat = a.length - bj.1.length := by omega
    have e2 : List.take (b.length - bj.2.1.length) (List.drop bj.2.1.length b) = List.drop bj.2.1.length b := List.take_of_length_le (by simp)
    rw [← ej] at k1
    repeat' (first | with_reducible refine inw ?_ | simp (maxSteps := 900000) (disch := omega) only [go_sem, Nat.reduceEqDiff, ↓reduceIte, reduceCtorEq, Nat.reduceAdd, Nat.reduceMul, Int.reduceToNat, List.reduceReplicate, Nat.reduceLeDiff, Nat.reduceLT, Int.reduceLT, Int.reduceLE, Int.reduceEq, e1, e2] | (with_reducible apply call_D (k1)); (focus simp (maxSteps := 900000) (disch := omega) only [go_sem, Nat.reduceEqDiff, ↓reduceIte, reduceCtorEq, Nat.reduceAdd, Nat.reduceMul, Int.reduceToNat, List.reduceReplicate, Nat.reduceLeDiff, Nat.reduceLT, Int.reduceLT, Int.reduceLE, Int.reduceEq, e1, e2] <;> rfl) | with_reducible refine pickB_f ?_ | with_reducible refine giv_intro fun _h => ?_ | with_reducible refine alt_intro ?_ fun _h => ?_ | with_reducible refine pickD_nil ?_ | (with_reducible refine brc (fun _h => ?_) fun _h => ?_) <;> first | (exfalso; omega) | simp only [decide_eq_false _h] | simp only [(_h : (_ : Bool) = _)] | simp only [decide_eq_true _h] | skip)

end Go.Proofs.Ytpfoflhhbkjngaa.Ev

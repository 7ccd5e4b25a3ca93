/- Sounds: which there are, and what a symbol is by them. -/
import Derived.Test.YtpfoflhhbkjngaaZFnB
set_option linter.unusedVariables false
set_option linter.unusedSimpArgs false
namespace Go.Proofs.Ytpfoflhhbkjngaa.Ev
open Go Go.Proofs

abbrev Sound := Str × Int × Bool × Int
theorem findIdx_anyG {α : Type} {l : List α} {p : α → Bool} : decide (0 ≤ (match l.findIdx? p with | some i => (i : Int) | none => -1)) = l.any p := by
  cases h : l.findIdx? p with
  | none => have := List.findIdx?_eq_none_iff.1 h; simp; simpa using this
  | some i =>
    obtain ⟨h1, h2, _⟩ := List.findIdx?_eq_some_iff_getElem.1 h
    have : l.any p = true := List.any_eq_true.2 ⟨l[i], List.getElem_mem h1, h2⟩
    rw [this]; simp
/-- ablaut/harm.first: 1 parameters, 0 captured -/
def s62 : SC := .seq (.reg [o1 2 (.mv (cI 0))])
  (.seq (.seq (.reg [o1 5 (.mv (.t 0)),
     o1 6 (.lenL (.t 5)),
     o1 7 (.mv (cI 0))])
    (.block 0 (.loop (.seq (.reg [o1 8 (.bin .lss (.t 7) (.t 6))])
       (.seq (.cond (.t 8) (.skip) (.exit 0))
        (.seq (.block 1 (.seq (.reg [o1 9 (.iaddr 1 (.t 5) (.t 7)),
            o1 10 (.load none (.t 9)),
            o1 4 (.mv (.t 10))])
           (.seq (.reg [o1 11 (.mv (.t 4)),
             o1 12 (.bin .neq (.t 11) (cI 0))])
            (.cond (.t 12) (.seq (.reg [o1 13 (.mv (.t 4)),
               o1 2 (.mv (.t 13))])
              (.ret)) (.skip)))))
         (.reg [o1 14 (.bin .add (.t 7) (cI 1)),
          o1 7 (.mv (.t 14))])))))))
   (.seq (.reg [o1 2 (.mv (cI 0))])
    (.ret)))
theorem s62_ok : lookF Try.prog 62 = some (s62, 15, [.tmp 2]) := by kernel_rfl
def firstE : List Int → Int
  | [] => 0
  | e :: l => if e ≠ 0 then e else firstE l
theorem first_ok (l : List Int) : Fn P 62 [sl l] (intA (firstE l)) := by
  (refine fn_look s62_ok (by simp) (by intro k; simp only [go_sem, Nat.reduceEqDiff, ↓reduceIte, reduceCtorEq, Nat.reduceAdd, Nat.reduceMul, Int.reduceToNat, List.reduceReplicate, Nat.reduceLeDiff, Nat.reduceLT, Int.reduceLT, Int.reduceLE, Int.reduceEq]) fun S hS => cwp_sound _ _ _ _ ?_; simp (maxSteps := 900000) (disch := omega) only [s62, go_sem, Nat.reduceEqDiff, ↓reduceIte, reduceCtorEq, Nat.reduceAdd, Nat.reduceMul, Int.reduceToNat, List.reduceReplicate, Nat.reduceLeDiff, Nat.reduceLT, Int.reduceLT, Int.reduceLE, Int.reduceEq])
  repeat' (first | with_reducible refine inw ?_ | simp (maxSteps := 900000) (disch := omega) only [go_sem, Nat.reduceEqDiff, ↓reduceIte, reduceCtorEq, Nat.reduceAdd, Nat.reduceMul, Int.reduceToNat, List.reduceReplicate, Nat.reduceLeDiff, Nat.reduceLT, Int.reduceLT, Int.reduceLE, Int.reduceEq] | with_reducible refine pickB_f ?_ | with_reducible refine giv_intro fun _h => ?_ | with_reducible refine alt_intro ?_ fun _h => ?_ | with_reducible refine pickD_nil ?_ | (with_reducible refine brc (fun _h => ?_) fun _h => ?_) <;> first | (exfalso; omega) | simp only [decide_eq_false _h] | simp only [(_h : (_ : Bool) = _)] | simp only [decide_eq_true _h] | skip)
  (refine loopC hS [5, 6] (by simp only [go_sem, Nat.reduceEqDiff, ↓reduceIte, reduceCtorEq, Nat.reduceAdd, Nat.reduceMul, Int.reduceToNat, List.reduceReplicate, Nat.reduceLeDiff, Nat.reduceLT, Int.reduceLT, Int.reduceLE, Int.reduceEq]; try rfl) (fun (i : Nat) => [(7, intA i)]) (fun (i : Nat) => []) (fun (i : Nat) => i ≤ l.length ∧ firstE l = firstE (l.drop i)) (fun (i : Nat) => l.length - i) (0) ?_ (by intro s; first | (simp only [List.length_cons, List.length_nil]; done) | rfl | (rcases s with ⟨_, _⟩; rfl) | (rcases s with ⟨_, _, _⟩; rfl) | (rcases s with ⟨_, _, _, _⟩; rfl) | (rcases s with ⟨_, _, _, _, _⟩; rfl)) ?_)
  · simp (maxSteps := 900000) (disch := omega) only [go_sem, Nat.reduceEqDiff, ↓reduceIte, reduceCtorEq, Nat.reduceAdd, Nat.reduceMul, Int.reduceToNat, List.reduceReplicate, Nat.reduceLeDiff, Nat.reduceLT, Int.reduceLT, Int.reduceLE, Int.reduceEq]; simp
  rintro i ⟨hi, hI⟩
  replace hi : i ≤ l.length := hi
  replace hI : firstE l = firstE (l.drop i) := hI
  repeat' (first | with_reducible refine inw ?_ | simp (maxSteps := 900000) (disch := omega) only [go_sem, Nat.reduceEqDiff, ↓reduceIte, reduceCtorEq, Nat.reduceAdd, Nat.reduceMul, Int.reduceToNat, List.reduceReplicate, Nat.reduceLeDiff, Nat.reduceLT, Int.reduceLT, Int.reduceLE, Int.reduceEq] | with_reducible refine pickB_f ?_ | with_reducible refine giv_intro fun _h => ?_ | with_reducible refine alt_intro ?_ fun _h => ?_ | with_reducible refine pickD_nil ?_ | (with_reducible refine brc (fun _h => ?_) fun _h => ?_) <;> first | (exfalso; omega) | simp only [decide_eq_false _h] | simp only [(_h : (_ : Bool) = _)] | simp only [decide_eq_true _h] | skip)
  · rw [hI, nth_drop (by assumption), firstE, if_pos (by assumption)]
  · refine ⟨i + 1, ⟨by omega, by omega, ?_⟩, by omega⟩
    rw [hI, nth_drop (by assumption), firstE, if_neg (by omega)]
  · rw [hI, List.drop_eq_nil_of_le (by omega)]; rfl

def badS (l : List Sound) (i : Nat) : Bool :=
  !goodS (nth l i).1 || (decide (0 < i) && !ltB (nth l (i - 1)).1 (nth l i).1) || decide ((nth l i).2.1 < 0) || decide (9 < (nth l i).2.1) || decide ((nth l i).2.2.2 < 0) || decide (5 < (nth l i).2.2.2)
def sndErr (l : List Sound) : Int := if 40 < l.length ∨ l.any (fun r => decide (16 < r.1.size)) = true then 3 else if (List.range l.length).any (badS l) = true then 1 else 0
end Go.Proofs.Ytpfoflhhbkjngaa.Ev

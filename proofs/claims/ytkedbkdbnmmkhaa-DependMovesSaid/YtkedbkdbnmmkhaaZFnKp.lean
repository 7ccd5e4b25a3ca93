/- Flat frames, trees, and the moves that hang their nodes: the law DependMoves. -/
import Derived.Test.YtkedbkdbnmmkhaaZFnKn
import Derived.Test.YtkedbkdbnmmkhaaZFnKm
import Derived.Test.YtkedbkdbnmmkhaaZEvY
set_option linter.unusedVariables false
set_option linter.unusedSimpArgs false
namespace Go.Proofs.Ytkedbkdbnmmkhaa.Ev
open Go Go.Proofs

def btwB (n a b : Int) : Bool := decide (min a b < n ∧ n < max a b)
def outsB (n a b : Int) : Bool := decide (n < min a b ∨ max a b < n)
/-- ablaut/ablautref21.isBetween: 3 parameters, 0 captured -/
def s85 : SC := .seq (.reg [o1 6 (.mv (cB false))])
  (.seq (.reg [o1 7 (.mv (.t 0)),
    o1 8 (.mv (.t 1)),
    o1 9 (.mv (.t 2)),
    o1 10 (.min (.t 8) (.t 9)),
    o1 11 (.bin .gtr (.t 7) (.t 10)),
    o1 12 (.mv (.t 11)),
    oT 13 (.mv (.t 0)) 12,
    oT 14 (.mv (.t 1)) 12,
    oT 15 (.mv (.t 2)) 12,
    oT 16 (.max (.t 14) (.t 15)) 12,
    oT 17 (.bin .lss (.t 13) (.t 16)) 12,
    o1 18 (.pick (.t 12) (.t 17) (cB false)),
    o1 6 (.mv (.t 18))])
   (.ret))
theorem s85_ok : lookF Try.prog 85 = some (s85, 19, [.tmp 6]) := by kernel_rfl
theorem isBetween_ok (n a b : Int) : Fn P 85 [intA n, intA a, intA b] (boolA (btwB n a b)) := by
  (refine fn_look s85_ok (by simp) (by intro k; simp only [go_sem, Nat.reduceEqDiff, ↓reduceIte, reduceCtorEq, Nat.reduceAdd, Nat.reduceMul, Int.reduceToNat, List.reduceReplicate, Nat.reduceLeDiff, Nat.reduceLT, Int.reduceLT, Int.reduceLE, Int.reduceEq]) fun S hS => cwp_sound _ _ _ _ ?_; simp (disch := omega) only [s85, go_sem, Nat.reduceEqDiff, ↓reduceIte, reduceCtorEq, Nat.reduceAdd, Nat.reduceMul, Int.reduceToNat, List.reduceReplicate, Nat.reduceLeDiff, Nat.reduceLT, Int.reduceLT, Int.reduceLE, Int.reduceEq])
  repeat' (first | with_reducible refine inw ?_ | simp (disch := omega) only [go_sem, Nat.reduceEqDiff, ↓reduceIte, reduceCtorEq, Nat.reduceAdd, Nat.reduceMul, Int.reduceToNat, List.reduceReplicate, Nat.reduceLeDiff, Nat.reduceLT, Int.reduceLT, Int.reduceLE, Int.reduceEq] | with_reducible refine giv_intro fun _h => ?_ | with_reducible refine alt_intro ?_ fun _h => ?_ | with_reducible refine pickD_nil ?_ | (with_reducible refine brc (fun _h => ?_) fun _h => ?_) <;> first | (exfalso; omega) | simp only [decide_eq_false _h] | simp only [(_h : (_ : Bool) = _)] | simp only [decide_eq_true _h] | skip)
  · rw [btwB, decide_eq_decide]; omega
  · exact (decide_eq_false (by omega)).symm
/-- ablaut/ablautref21.isOutside: 3 parameters, 0 captured -/
def s86 : SC := .seq (.reg [o1 6 (.mv (cB false))])
  (.seq (.reg [o1 7 (.mv (.t 0)),
    o1 8 (.mv (.t 1)),
    o1 9 (.mv (.t 2)),
    o1 10 (.min (.t 8) (.t 9)),
    o1 11 (.bin .lss (.t 7) (.t 10)),
    o1 12 (.mv (.t 11)),
    oF 13 (.mv (.t 0)) 12,
    oF 14 (.mv (.t 1)) 12,
    oF 15 (.mv (.t 2)) 12,
    oF 16 (.max (.t 14) (.t 15)) 12,
    oF 17 (.bin .gtr (.t 13) (.t 16)) 12,
    o1 18 (.pick (.t 12) (cB true) (.t 17)),
    o1 6 (.mv (.t 18))])
   (.ret))
theorem s86_ok : lookF Try.prog 86 = some (s86, 19, [.tmp 6]) := by kernel_rfl
theorem isOutside_ok (n a b : Int) : Fn P 86 [intA n, intA a, intA b] (boolA (outsB n a b)) := by
  (refine fn_look s86_ok (by simp) (by intro k; simp only [go_sem, Nat.reduceEqDiff, ↓reduceIte, reduceCtorEq, Nat.reduceAdd, Nat.reduceMul, Int.reduceToNat, List.reduceReplicate, Nat.reduceLeDiff, Nat.reduceLT, Int.reduceLT, Int.reduceLE, Int.reduceEq]) fun S hS => cwp_sound _ _ _ _ ?_; simp (disch := omega) only [s86, go_sem, Nat.reduceEqDiff, ↓reduceIte, reduceCtorEq, Nat.reduceAdd, Nat.reduceMul, Int.reduceToNat, List.reduceReplicate, Nat.reduceLeDiff, Nat.reduceLT, Int.reduceLT, Int.reduceLE, Int.reduceEq])
  repeat' (first | with_reducible refine inw ?_ | simp (disch := omega) only [go_sem, Nat.reduceEqDiff, ↓reduceIte, reduceCtorEq, Nat.reduceAdd, Nat.reduceMul, Int.reduceToNat, List.reduceReplicate, Nat.reduceLeDiff, Nat.reduceLT, Int.reduceLT, Int.reduceLE, Int.reduceEq] | with_reducible refine giv_intro fun _h => ?_ | with_reducible refine alt_intro ?_ fun _h => ?_ | with_reducible refine pickD_nil ?_ | (with_reducible refine brc (fun _h => ?_) fun _h => ?_) <;> first | (exfalso; omega) | simp only [decide_eq_false _h] | simp only [(_h : (_ : Bool) = _)] | simp only [decide_eq_true _h] | skip)
  · exact (decide_eq_true (by omega)).symm
  · rw [outsB, decide_eq_decide]; omega
/-- A hanging from a to b crosses the head h of node k. -/
def badA (a b k h : Int) : Prop := min a b < k ∧ k < max a b ∧ (h = -1 ∨ (0 ≤ h ∧ (h < min a b ∨ max a b < h)))
def badC (a b k h : Int) : Prop := min a b < h ∧ h < max a b ∧ (k < min a b ∨ max a b < k)
instance (a b k h : Int) : Decidable (badA a b k h) := by unfold badA; infer_instance
instance (a b k h : Int) : Decidable (badC a b k h) := by unfold badC; infer_instance
def flatA (l : List Hung) (i : Nat) : Prop := 0 ≤ (nth l i).2.1 → ∀ k, k < l.length → ¬badA i (nth l i).2.1 k (nth l k).2.1 ∧ ¬badC i (nth l i).2.1 k (nth l k).2.1
instance (l : List Hung) (i : Nat) : Decidable (flatA l i) := by unfold flatA; infer_instance
def flatB (l : List Hung) : Bool := decide (∀ i, i < l.length → flatA l i)
/-- ablaut/depend.flat: 1 parameters, 0 captured -/
def s62 : SC := .seq (.reg [o1 2 (.mv (cB false))])
  (.seq (.seq (.reg [o1 11 (.mv (.t 0)),
     o1 12 (.lenL (.t 11)),
     o1 13 (.mv (cI 0))])
    (.block 0 (.loop (.seq (.reg [o1 14 (.bin .lss (.t 13) (.t 12))])
       (.seq (.cond (.t 14) (.skip) (.exit 0))
        (.seq (.block 1 (.seq (.reg [o1 15 (.mv (.t 13)),
            o1 16 (.iaddr 3 (.t 11) (.t 13)),
            o1 17 (.load (some 3) (.t 16)),
            o1 4 (.alloc 34 3 [(.slice none 0 0), (.int .i64 0), (.string ⟨#[]⟩)]),
            o1 3 (.mv (.t 15)),
            o0 (.store 3 (.t 4) (.t 17))])
           (.seq (.seq (.reg [o1 18 (.faddr 1 (.t 4)),
              o1 19 (.load none (.t 18)),
              o1 20 (.bin .lss (.t 19) (cI 0))])
             (.cond (.t 20) (.exit 1) (.skip)))
            (.seq (.regD [o1 21 (.mv (.t 3)),
              o1 22 (.faddr 1 (.t 4)),
              o1 23 (.load none (.t 22)),
              o1 24 (.min (.t 21) (.t 23)),
              o1 25 (.mv (.t 3)),
              o1 26 (.faddr 1 (.t 4)),
              o1 27 (.load none (.t 26)),
              o1 28 (.max (.t 25) (.t 27)),
              o1 5 (.mv (.t 24)),
              o1 6 (.mv (.t 28))])
             (.seq (.seq (.reg [o1 29 (.mv (.t 0)),
                o1 30 (.lenL (.t 29)),
                o1 31 (.mv (cI 0))])
               (.block 2 (.loop (.seq (.reg [o1 32 (.bin .lss (.t 31) (.t 30))])
                  (.seq (.cond (.t 32) (.skip) (.exit 2))
                   (.seq (.block 3 (.seq (.reg [o1 33 (.mv (.t 31)),
                       o1 34 (.iaddr 3 (.t 29) (.t 31)),
                       o1 35 (.load (some 3) (.t 34)),
                       o1 8 (.alloc 34 3 [(.slice none 0 0), (.int .i64 0), (.string ⟨#[]⟩)]),
                       o1 7 (.mv (.t 33)),
                       o0 (.store 3 (.t 8) (.t 35))])
                      (.seq (.seq (.reg [o1 36 (.mv (.t 7)),
                         o1 37 (.mv (.t 5)),
                         o1 38 (.bin .leq (.t 36) (.t 37)),
                         o1 39 (.mv (.t 38)),
                         oF 40 (.mv (.t 7)) 39,
                         oF 41 (.mv (.t 6)) 39,
                         oF 42 (.bin .geq (.t 40) (.t 41)) 39,
                         o1 43 (.pick (.t 39) (cB true) (.t 42))])
                        (.cond (.t 43) (.exit 3) (.skip)))
                       (.seq (.reg [o1 44 (.faddr 1 (.t 8)),
                         o1 45 (.load none (.t 44)),
                         o1 46 (.bin .eql (.t 45) (cI (-1))),
                         o1 47 (.mv (.t 46)),
                         oF 48 (.faddr 1 (.t 8)) 47,
                         oF 49 (.load none (.t 48)) 47,
                         oF 50 (.bin .geq (.t 49) (cI 0)) 47,
                         oF 51 (.mv (.t 50)) 47,
                         oT 52 (.faddr 1 (.t 8)) 51,
                         oT 53 (.load none (.t 52)) 51,
                         oT 54 (.mv (.t 5)) 51,
                         oT 55 (.bin .lss (.t 53) (.t 54)) 51,
                         oT 56 (.mv (.t 55)) 51,
                         oF 57 (.faddr 1 (.t 8)) 56,
                         oF 58 (.load none (.t 57)) 56,
                         oF 59 (.mv (.t 6)) 56,
                         oF 60 (.bin .gtr (.t 58) (.t 59)) 56,
                         oT 61 (.pick (.t 56) (cB true) (.t 60)) 51,
                         oF 62 (.pick (.t 51) (.t 61) (cB false)) 47,
                         o1 63 (.pick (.t 47) (cB true) (.t 62))])
                        (.cond (.t 63) (.seq (.reg [o1 2 (.mv (cB false))])
                          (.ret)) (.skip))))))
                    (.reg [o1 64 (.bin .add (.t 31) (cI 1)),
                     o1 31 (.mv (.t 64))])))))))
              (.seq (.reg [o1 65 (.mv (.t 0)),
                o1 66 (.lenL (.t 65)),
                o1 67 (.mv (cI 0))])
               (.block 4 (.loop (.seq (.reg [o1 68 (.bin .lss (.t 67) (.t 66))])
                  (.seq (.cond (.t 68) (.skip) (.exit 4))
                   (.seq (.block 5 (.seq (.reg [o1 69 (.mv (.t 67)),
                       o1 70 (.iaddr 3 (.t 65) (.t 67)),
                       o1 71 (.load (some 3) (.t 70)),
                       o1 10 (.alloc 34 3 [(.slice none 0 0), (.int .i64 0), (.string ⟨#[]⟩)]),
                       o1 9 (.mv (.t 69)),
                       o0 (.store 3 (.t 10) (.t 71))])
                      (.seq (.reg [o1 72 (.faddr 1 (.t 10)),
                        o1 73 (.load none (.t 72)),
                        o1 74 (.mv (.t 5)),
                        o1 75 (.bin .gtr (.t 73) (.t 74)),
                        o1 76 (.mv (.t 75)),
                        oT 77 (.faddr 1 (.t 10)) 76,
                        oT 78 (.load none (.t 77)) 76,
                        oT 79 (.mv (.t 6)) 76,
                        oT 80 (.bin .lss (.t 78) (.t 79)) 76,
                        o1 81 (.pick (.t 76) (.t 80) (cB false)),
                        o1 82 (.mv (.t 81)),
                        oT 83 (.mv (.t 9)) 82,
                        oT 84 (.mv (.t 5)) 82,
                        oT 85 (.bin .lss (.t 83) (.t 84)) 82,
                        oT 86 (.mv (.t 85)) 82,
                        oF 87 (.mv (.t 9)) 86,
                        oF 88 (.mv (.t 6)) 86,
                        oF 89 (.bin .gtr (.t 87) (.t 88)) 86,
                        oT 90 (.pick (.t 86) (cB true) (.t 89)) 82,
                        o1 91 (.pick (.t 82) (.t 90) (cB false))])
                       (.cond (.t 91) (.seq (.reg [o1 2 (.mv (cB false))])
                         (.ret)) (.skip)))))
                    (.reg [o1 92 (.bin .add (.t 67) (cI 1)),
                     o1 67 (.mv (.t 92))]))))))))))))
         (.reg [o1 93 (.bin .add (.t 13) (cI 1)),
          o1 13 (.mv (.t 93))])))))))
   (.seq (.reg [o1 2 (.mv (cB true))])
    (.ret)))
theorem s62_ok : lookF Try.prog 62 = some (s62, 94, [.tmp 2]) := by kernel_rfl
set_option maxHeartbeats 1000000 in
theorem flat_ok (l : List Hung) (hl : l.length ≤ 200) (hd : Hds l) : Fn P 62 [sl l] (boolA (flatB l)) := by
  (refine fn_look s62_ok (by simp) (by intro k; simp only [go_sem, Nat.reduceEqDiff, ↓reduceIte, reduceCtorEq, Nat.reduceAdd, Nat.reduceMul, Int.reduceToNat, List.reduceReplicate, Nat.reduceLeDiff, Nat.reduceLT, Int.reduceLT, Int.reduceLE, Int.reduceEq]) fun S hS => cwp_sound _ _ _ _ ?_; simp (disch := omega) only [s62, go_sem, Nat.reduceEqDiff, ↓reduceIte, reduceCtorEq, Nat.reduceAdd, Nat.reduceMul, Int.reduceToNat, List.reduceReplicate, Nat.reduceLeDiff, Nat.reduceLT, Int.reduceLT, Int.reduceLE, Int.reduceEq])
  repeat' (first | with_reducible refine inw ?_ | simp (disch := omega) only [go_sem, Nat.reduceEqDiff, ↓reduceIte, reduceCtorEq, Nat.reduceAdd, Nat.reduceMul, Int.reduceToNat, List.reduceReplicate, Nat.reduceLeDiff, Nat.reduceLT, Int.reduceLT, Int.reduceLE, Int.reduceEq] | with_reducible refine giv_intro fun _h => ?_ | with_reducible refine alt_intro ?_ fun _h => ?_ | with_reducible refine pickD_nil ?_ | (with_reducible refine brc (fun _h => ?_) fun _h => ?_) <;> first | (exfalso; omega) | simp only [decide_eq_false _h] | simp only [(_h : (_ : Bool) = _)] | simp only [decide_eq_true _h] | skip)
  (refine loopC hS [0, 11, 12] (by simp only [go_sem, Nat.reduceEqDiff, ↓reduceIte, reduceCtorEq, Nat.reduceAdd, Nat.reduceMul, Int.reduceToNat, List.reduceReplicate, Nat.reduceLeDiff, Nat.reduceLT, Int.reduceLT, Int.reduceLE, Int.reduceEq]; try rfl) (fun (i : Nat) => [(13, intA i)]) (fun (i : Nat) => []) (fun (i : Nat) => i ≤ l.length ∧ ∀ j, j < i → flatA l j) (fun (i : Nat) => l.length - i) (0) ?h01 ?hn1 ?rd1; case hn1 => (intro s; first | rfl | (rcases s with ⟨_, _⟩; rfl) | (rcases s with ⟨_, _, _⟩; rfl) | (rcases s with ⟨_, _, _, _⟩; rfl) | (rcases s with ⟨_, _, _, _, _⟩; rfl)))
  · simp (disch := omega) only [go_sem, Nat.reduceEqDiff, ↓reduceIte, reduceCtorEq, Nat.reduceAdd, Nat.reduceMul, Int.reduceToNat, List.reduceReplicate, Nat.reduceLeDiff, Nat.reduceLT, Int.reduceLT, Int.reduceLE, Int.reduceEq]; simp
  rintro i ⟨hi, hI⟩
  replace hi : i ≤ l.length := hi
  replace hI : ∀ j, j < i → flatA l j := hI
  by_cases hil : i < l.length
  · have hr := hd i hil
    by_cases hh : (nth l i).2.1 < 0
    · repeat' (first | with_reducible refine inw ?_ | simp (disch := omega) only [go_sem, Nat.reduceEqDiff, ↓reduceIte, reduceCtorEq, Nat.reduceAdd, Nat.reduceMul, Int.reduceToNat, List.reduceReplicate, Nat.reduceLeDiff, Nat.reduceLT, Int.reduceLT, Int.reduceLE, Int.reduceEq] | with_reducible refine giv_intro fun _h => ?_ | with_reducible refine alt_intro ?_ fun _h => ?_ | with_reducible refine pickD_nil ?_ | (with_reducible refine brc (fun _h => ?_) fun _h => ?_) <;> first | (exfalso; omega) | simp only [decide_eq_false _h] | simp only [(_h : (_ : Bool) = _)] | simp only [decide_eq_true _h] | skip)
      exact ⟨i + 1, ⟨by omega, by omega, allN_step hI (fun h => by omega)⟩, by omega⟩
    · repeat' (first | with_reducible refine inw ?_ | simp (disch := omega) only [go_sem, Nat.reduceEqDiff, ↓reduceIte, reduceCtorEq, Nat.reduceAdd, Nat.reduceMul, Int.reduceToNat, List.reduceReplicate, Nat.reduceLeDiff, Nat.reduceLT, Int.reduceLT, Int.reduceLE, Int.reduceEq] | with_reducible refine giv_intro fun _h => ?_ | with_reducible refine alt_intro ?_ fun _h => ?_ | with_reducible refine pickD_nil ?_ | (with_reducible refine brc (fun _h => ?_) fun _h => ?_) <;> first | (exfalso; omega) | simp only [decide_eq_false _h] | simp only [(_h : (_ : Bool) = _)] | simp only [decide_eq_true _h] | skip)
      (refine loopC hS [0, 5, 6, 11, 12, 13, 29, 30] (by simp only [go_sem, Nat.reduceEqDiff, ↓reduceIte, reduceCtorEq, Nat.reduceAdd, Nat.reduceMul, Int.reduceToNat, List.reduceReplicate, Nat.reduceLeDiff, Nat.reduceLT, Int.reduceLT, Int.reduceLE, Int.reduceEq]; try rfl) (fun (k : Nat) => [(31, intA k)]) (fun (k : Nat) => [none]) (fun (k : Nat) => k ≤ l.length ∧ ∀ j, j < k → ¬badA i (nth l i).2.1 j (nth l j).2.1) (fun (k : Nat) => l.length - k) (0) ?h02 ?hn2 ?rd2; case hn2 => (intro s; first | rfl | (rcases s with ⟨_, _⟩; rfl) | (rcases s with ⟨_, _, _⟩; rfl) | (rcases s with ⟨_, _, _, _⟩; rfl) | (rcases s with ⟨_, _, _, _, _⟩; rfl)))
      · simp (disch := omega) only [go_sem, Nat.reduceEqDiff, ↓reduceIte, reduceCtorEq, Nat.reduceAdd, Nat.reduceMul, Int.reduceToNat, List.reduceReplicate, Nat.reduceLeDiff, Nat.reduceLT, Int.reduceLT, Int.reduceLE, Int.reduceEq]; simp
      rintro k ⟨hk, hK⟩
      replace hk : k ≤ l.length := hk
      replace hK : ∀ j, j < k → ¬badA i (nth l i).2.1 j (nth l j).2.1 := hK
      by_cases hkl : k < l.length
      · repeat' (first | with_reducible refine inw ?_ | simp (disch := omega) only [go_sem, Nat.reduceEqDiff, ↓reduceIte, reduceCtorEq, Nat.reduceAdd, Nat.reduceMul, Int.reduceToNat, List.reduceReplicate, Nat.reduceLeDiff, Nat.reduceLT, Int.reduceLT, Int.reduceLE, Int.reduceEq] | with_reducible refine giv_intro fun _h => ?_ | with_reducible refine alt_intro ?_ fun _h => ?_ | with_reducible refine pickD_nil ?_ | (with_reducible refine brc (fun _h => ?_) fun _h => ?_) <;> first | (exfalso; omega) | simp only [decide_eq_false _h] | simp only [(_h : (_ : Bool) = _)] | simp only [decide_eq_true _h] | skip)
        all_goals first
          | exact ⟨k + 1, ⟨by omega, by omega, allN_step hK (by rw [badA]; omega)⟩, by omega⟩
          | exact (allN_no hil (fun q => (q (by omega) k hkl).1 (by rw [badA]; omega))).symm
      · have hK' : ∀ j, j < l.length → ¬badA i (nth l i).2.1 j (nth l j).2.1 := fun j hj => hK j (by omega)
        repeat' (first | with_reducible refine inw ?_ | simp (disch := omega) only [go_sem, Nat.reduceEqDiff, ↓reduceIte, reduceCtorEq, Nat.reduceAdd, Nat.reduceMul, Int.reduceToNat, List.reduceReplicate, Nat.reduceLeDiff, Nat.reduceLT, Int.reduceLT, Int.reduceLE, Int.reduceEq] | with_reducible refine giv_intro fun _h => ?_ | with_reducible refine alt_intro ?_ fun _h => ?_ | with_reducible refine pickD_nil ?_ | (with_reducible refine brc (fun _h => ?_) fun _h => ?_) <;> first | (exfalso; omega) | simp only [decide_eq_false _h] | simp only [(_h : (_ : Bool) = _)] | simp only [decide_eq_true _h] | skip)
        (refine loopC hS [0, 5, 6, 11, 12, 13, 65, 66] (by simp only [go_sem, Nat.reduceEqDiff, ↓reduceIte, reduceCtorEq, Nat.reduceAdd, Nat.reduceMul, Int.reduceToNat, List.reduceReplicate, Nat.reduceLeDiff, Nat.reduceLT, Int.reduceLT, Int.reduceLE, Int.reduceEq]; try rfl) (fun (k : Nat) => [(67, intA k)]) (fun (k : Nat) => [none]) (fun (k : Nat) => k ≤ l.length ∧ ∀ j, j < k → ¬badC i (nth l i).2.1 j (nth l j).2.1) (fun (k : Nat) => l.length - k) (0) ?h03 ?hn3 ?rd3; case hn3 => (intro s; first | rfl | (rcases s with ⟨_, _⟩; rfl) | (rcases s with ⟨_, _, _⟩; rfl) | (rcases s with ⟨_, _, _, _⟩; rfl) | (rcases s with ⟨_, _, _, _, _⟩; rfl)))
        · simp (disch := omega) only [go_sem, Nat.reduceEqDiff, ↓reduceIte, reduceCtorEq, Nat.reduceAdd, Nat.reduceMul, Int.reduceToNat, List.reduceReplicate, Nat.reduceLeDiff, Nat.reduceLT, Int.reduceLT, Int.reduceLE, Int.reduceEq]; simp
        rintro k ⟨hk, hK⟩
        replace hk : k ≤ l.length := hk
        replace hK : ∀ j, j < k → ¬badC i (nth l i).2.1 j (nth l j).2.1 := hK
        by_cases hkl : k < l.length
        · repeat' (first | with_reducible refine inw ?_ | simp (disch := omega) only [go_sem, Nat.reduceEqDiff, ↓reduceIte, reduceCtorEq, Nat.reduceAdd, Nat.reduceMul, Int.reduceToNat, List.reduceReplicate, Nat.reduceLeDiff, Nat.reduceLT, Int.reduceLT, Int.reduceLE, Int.reduceEq] | with_reducible refine giv_intro fun _h => ?_ | with_reducible refine alt_intro ?_ fun _h => ?_ | with_reducible refine pickD_nil ?_ | (with_reducible refine brc (fun _h => ?_) fun _h => ?_) <;> first | (exfalso; omega) | simp only [decide_eq_false _h] | simp only [(_h : (_ : Bool) = _)] | simp only [decide_eq_true _h] | skip)
          all_goals first
            | exact ⟨k + 1, ⟨by omega, by omega, allN_step hK (by rw [badC]; omega)⟩, by omega⟩
            | exact (allN_no hil (fun q => (q (by omega) k hkl).2 (by rw [badC]; omega))).symm
        · repeat' (first | with_reducible refine inw ?_ | simp (disch := omega) only [go_sem, Nat.reduceEqDiff, ↓reduceIte, reduceCtorEq, Nat.reduceAdd, Nat.reduceMul, Int.reduceToNat, List.reduceReplicate, Nat.reduceLeDiff, Nat.reduceLT, Int.reduceLT, Int.reduceLE, Int.reduceEq] | with_reducible refine giv_intro fun _h => ?_ | with_reducible refine alt_intro ?_ fun _h => ?_ | with_reducible refine pickD_nil ?_ | (with_reducible refine brc (fun _h => ?_) fun _h => ?_) <;> first | (exfalso; omega) | simp only [decide_eq_false _h] | simp only [(_h : (_ : Bool) = _)] | simp only [decide_eq_true _h] | skip)
          exact ⟨i + 1, ⟨by omega, by omega, allN_step hI (fun h j hj => ⟨hK' j hj, hK j (by omega)⟩)⟩, by omega⟩
  · rw [flatB, allN_yes hil hI]
    repeat' (first | with_reducible refine inw ?_ | simp (disch := omega) only [go_sem, Nat.reduceEqDiff, ↓reduceIte, reduceCtorEq, Nat.reduceAdd, Nat.reduceMul, Int.reduceToNat, List.reduceReplicate, Nat.reduceLeDiff, Nat.reduceLT, Int.reduceLT, Int.reduceLE, Int.reduceEq] | with_reducible refine giv_intro fun _h => ?_ | with_reducible refine alt_intro ?_ fun _h => ?_ | with_reducible refine pickD_nil ?_ | (with_reducible refine brc (fun _h => ?_) fun _h => ?_) <;> first | (exfalso; omega) | simp only [decide_eq_false _h] | simp only [(_h : (_ : Bool) = _)] | simp only [decide_eq_true _h] | skip)
/-- ablaut/ablautref21.isFlat: 1 parameters, 0 captured -/
def s64 : SC := .seq (.reg [o1 2 (.mv (cB false))])
  (.seq (.seq (.reg [o1 3 (.mv (cI 0))])
    (.block 0 (.loop (.seq (.seq (.reg [o1 6 (.mv (.t 3)),
         o1 7 (.mv (.t 0)),
         o1 8 (.lenL (.t 7)),
         o1 9 (.bin .lss (.t 6) (.t 8))])
        (.cond (.t 9) (.skip) (.exit 0)))
       (.seq (.block 1 (.seq (.seq (.reg [o1 12 (.mv (.t 0)),
            o1 13 (.mv (.t 3)),
            o1 14 (.iaddr 3 (.t 12) (.t 13)),
            o1 15 (.faddr 1 (.t 14)),
            o1 16 (.load none (.t 15)),
            o1 17 (.bin .lss (.t 16) (cI 0))])
           (.cond (.t 17) (.exit 1) (.skip)))
          (.seq (.reg [o1 4 (.mv (cI 0))])
           (.block 2 (.loop (.seq (.seq (.reg [o1 18 (.mv (.t 4)),
                o1 19 (.mv (.t 0)),
                o1 20 (.lenL (.t 19)),
                o1 21 (.bin .lss (.t 18) (.t 20))])
               (.cond (.t 21) (.skip) (.exit 2)))
              (.seq (.block 3 (.seq (.reg [o1 24 (.mv (.t 0)),
                  o1 25 (.mv (.t 4)),
                  o1 26 (.iaddr 3 (.t 24) (.t 25)),
                  o1 27 (.faddr 1 (.t 26)),
                  o1 28 (.load none (.t 27)),
                  o1 5 (.mv (.t 28))])
                 (.seq (.seq (.reg [o1 29 (.mv (.t 5)),
                    o1 30 (.bin .eql (.t 29) (cI (-1))),
                    o1 31 (.mv (.t 30)),
                    oT 32 (.mv (.t 4)) 31,
                    oT 33 (.mv (.t 3)) 31,
                    oT 34 (.mv (.t 0)) 31,
                    oT 35 (.mv (.t 3)) 31,
                    oT 36 (.iaddr 3 (.t 34) (.t 35)) 31,
                    oT 37 (.faddr 1 (.t 36)) 31,
                    oT 38 (.load none (.t 37)) 31,
                    oT 39 (.call (.f 85) [(.t 32), (.t 33), (.t 38)]) 31,
                    o1 40 (.pick (.t 31) (.t 39) (cB false))])
                   (.cond (.t 40) (.seq (.reg [o1 2 (.mv (cB false))])
                     (.ret)) (.skip)))
                  (.seq (.seq (.reg [o1 41 (.mv (.t 5)),
                     o1 42 (.bin .lss (.t 41) (cI 0))])
                    (.cond (.t 42) (.exit 3) (.skip)))
                   (.seq (.reg [o1 43 (.mv (.t 4)),
                     o1 44 (.mv (.t 3)),
                     o1 45 (.mv (.t 0)),
                     o1 46 (.mv (.t 3)),
                     o1 47 (.iaddr 3 (.t 45) (.t 46)),
                     o1 48 (.faddr 1 (.t 47)),
                     o1 49 (.load none (.t 48)),
                     o1 50 (.call (.f 85) [(.t 43), (.t 44), (.t 49)]),
                     o1 51 (.mv (.t 50)),
                     oT 52 (.mv (.t 5)) 51,
                     oT 53 (.mv (.t 3)) 51,
                     oT 54 (.mv (.t 0)) 51,
                     oT 55 (.mv (.t 3)) 51,
                     oT 56 (.iaddr 3 (.t 54) (.t 55)) 51,
                     oT 57 (.faddr 1 (.t 56)) 51,
                     oT 58 (.load none (.t 57)) 51,
                     oT 59 (.call (.f 86) [(.t 52), (.t 53), (.t 58)]) 51,
                     o1 60 (.pick (.t 51) (.t 59) (cB false)),
                     o1 61 (.mv (.t 60)),
                     oF 62 (.mv (.t 5)) 61,
                     oF 63 (.mv (.t 3)) 61,
                     oF 64 (.mv (.t 0)) 61,
                     oF 65 (.mv (.t 3)) 61,
                     oF 66 (.iaddr 3 (.t 64) (.t 65)) 61,
                     oF 67 (.faddr 1 (.t 66)) 61,
                     oF 68 (.load none (.t 67)) 61,
                     oF 69 (.call (.f 85) [(.t 62), (.t 63), (.t 68)]) 61,
                     oF 70 (.mv (.t 69)) 61,
                     oT 71 (.mv (.t 4)) 70,
                     oT 72 (.mv (.t 3)) 70,
                     oT 73 (.mv (.t 0)) 70,
                     oT 74 (.mv (.t 3)) 70,
                     oT 75 (.iaddr 3 (.t 73) (.t 74)) 70,
                     oT 76 (.faddr 1 (.t 75)) 70,
                     oT 77 (.load none (.t 76)) 70,
                     oT 78 (.call (.f 86) [(.t 71), (.t 72), (.t 77)]) 70,
                     oF 79 (.pick (.t 70) (.t 78) (cB false)) 61,
                     o1 80 (.pick (.t 61) (cB true) (.t 79))])
                    (.cond (.t 80) (.seq (.reg [o1 2 (.mv (cB false))])
                      (.ret)) (.skip)))))))
               (.reg [o1 22 (.mv (.t 4)),
                o1 23 (.bin .add (.t 22) (cI 1)),
                o1 4 (.mv (.t 23))]))))))))
        (.reg [o1 10 (.mv (.t 3)),
         o1 11 (.bin .add (.t 10) (cI 1)),
         o1 3 (.mv (.t 11))]))))))
   (.seq (.reg [o1 2 (.mv (cB true))])
    (.ret)))
theorem s64_ok : lookF Try.prog 64 = some (s64, 81, [.tmp 2]) := by kernel_rfl
set_option maxHeartbeats 1000000 in
theorem isFlat_ok (l : List Hung) (hl : l.length ≤ 200) (hd : Hds l) : Fn P 64 [sl l] (boolA (flatB l)) := by
  (refine fn_look s64_ok (by simp) (by intro k; simp only [go_sem, Nat.reduceEqDiff, ↓reduceIte, reduceCtorEq, Nat.reduceAdd, Nat.reduceMul, Int.reduceToNat, List.reduceReplicate, Nat.reduceLeDiff, Nat.reduceLT, Int.reduceLT, Int.reduceLE, Int.reduceEq]) fun S hS => cwp_sound _ _ _ _ ?_; simp (disch := omega) only [s64, go_sem, Nat.reduceEqDiff, ↓reduceIte, reduceCtorEq, Nat.reduceAdd, Nat.reduceMul, Int.reduceToNat, List.reduceReplicate, Nat.reduceLeDiff, Nat.reduceLT, Int.reduceLT, Int.reduceLE, Int.reduceEq])
  repeat' (first | with_reducible refine inw ?_ | simp (disch := omega) only [go_sem, Nat.reduceEqDiff, ↓reduceIte, reduceCtorEq, Nat.reduceAdd, Nat.reduceMul, Int.reduceToNat, List.reduceReplicate, Nat.reduceLeDiff, Nat.reduceLT, Int.reduceLT, Int.reduceLE, Int.reduceEq] | with_reducible refine giv_intro fun _h => ?_ | with_reducible refine alt_intro ?_ fun _h => ?_ | with_reducible refine pickD_nil ?_ | (with_reducible refine brc (fun _h => ?_) fun _h => ?_) <;> first | (exfalso; omega) | simp only [decide_eq_false _h] | simp only [(_h : (_ : Bool) = _)] | simp only [decide_eq_true _h] | skip)
  (refine loopC hS [0] (by simp only [go_sem, Nat.reduceEqDiff, ↓reduceIte, reduceCtorEq, Nat.reduceAdd, Nat.reduceMul, Int.reduceToNat, List.reduceReplicate, Nat.reduceLeDiff, Nat.reduceLT, Int.reduceLT, Int.reduceLE, Int.reduceEq]; try rfl) (fun (i : Nat) => [(3, intA i)]) (fun (i : Nat) => []) (fun (i : Nat) => i ≤ l.length ∧ ∀ j, j < i → flatA l j) (fun (i : Nat) => l.length - i) (0) ?h04 ?hn4 ?rd4; case hn4 => (intro s; first | rfl | (rcases s with ⟨_, _⟩; rfl) | (rcases s with ⟨_, _, _⟩; rfl) | (rcases s with ⟨_, _, _, _⟩; rfl) | (rcases s with ⟨_, _, _, _, _⟩; rfl)))
  · simp (disch := omega) only [go_sem, Nat.reduceEqDiff, ↓reduceIte, reduceCtorEq, Nat.reduceAdd, Nat.reduceMul, Int.reduceToNat, List.reduceReplicate, Nat.reduceLeDiff, Nat.reduceLT, Int.reduceLT, Int.reduceLE, Int.reduceEq]; simp
  rintro i ⟨hi, hI⟩
  replace hi : i ≤ l.length := hi
  replace hI : ∀ j, j < i → flatA l j := hI
  by_cases hil : i < l.length
  · have hr := hd i hil
    by_cases hh : (nth l i).2.1 < 0
    · repeat' (first | with_reducible refine inw ?_ | simp (disch := omega) only [go_sem, Nat.reduceEqDiff, ↓reduceIte, reduceCtorEq, Nat.reduceAdd, Nat.reduceMul, Int.reduceToNat, List.reduceReplicate, Nat.reduceLeDiff, Nat.reduceLT, Int.reduceLT, Int.reduceLE, Int.reduceEq] | with_reducible refine giv_intro fun _h => ?_ | with_reducible refine alt_intro ?_ fun _h => ?_ | with_reducible refine pickD_nil ?_ | (with_reducible refine brc (fun _h => ?_) fun _h => ?_) <;> first | (exfalso; omega) | simp only [decide_eq_false _h] | simp only [(_h : (_ : Bool) = _)] | simp only [decide_eq_true _h] | skip)
      exact ⟨i + 1, ⟨by omega, by omega, allN_step hI (fun h => by omega)⟩, by omega⟩
    · repeat' (first | with_reducible refine inw ?_ | simp (disch := omega) only [go_sem, Nat.reduceEqDiff, ↓reduceIte, reduceCtorEq, Nat.reduceAdd, Nat.reduceMul, Int.reduceToNat, List.reduceReplicate, Nat.reduceLeDiff, Nat.reduceLT, Int.reduceLT, Int.reduceLE, Int.reduceEq] | with_reducible refine giv_intro fun _h => ?_ | with_reducible refine alt_intro ?_ fun _h => ?_ | with_reducible refine pickD_nil ?_ | (with_reducible refine brc (fun _h => ?_) fun _h => ?_) <;> first | (exfalso; omega) | simp only [decide_eq_false _h] | simp only [(_h : (_ : Bool) = _)] | simp only [decide_eq_true _h] | skip)
      (refine loopC hS [0, 3] (by simp only [go_sem, Nat.reduceEqDiff, ↓reduceIte, reduceCtorEq, Nat.reduceAdd, Nat.reduceMul, Int.reduceToNat, List.reduceReplicate, Nat.reduceLeDiff, Nat.reduceLT, Int.reduceLT, Int.reduceLE, Int.reduceEq]; try rfl) (fun (k : Nat) => [(4, intA k)]) (fun (k : Nat) => []) (fun (k : Nat) => k ≤ l.length ∧ ∀ j, j < k → ¬badA i (nth l i).2.1 j (nth l j).2.1 ∧ ¬badC i (nth l i).2.1 j (nth l j).2.1) (fun (k : Nat) => l.length - k) (0) ?h05 ?hn5 ?rd5; case hn5 => (intro s; first | rfl | (rcases s with ⟨_, _⟩; rfl) | (rcases s with ⟨_, _, _⟩; rfl) | (rcases s with ⟨_, _, _, _⟩; rfl) | (rcases s with ⟨_, _, _, _, _⟩; rfl)))
      · simp (disch := omega) only [go_sem, Nat.reduceEqDiff, ↓reduceIte, reduceCtorEq, Nat.reduceAdd, Nat.reduceMul, Int.reduceToNat, List.reduceReplicate, Nat.reduceLeDiff, Nat.reduceLT, Int.reduceLT, Int.reduceLE, Int.reduceEq]; simp
      rintro k ⟨hk, hK⟩
      replace hk : k ≤ l.length := hk
      replace hK : ∀ j, j < k → ¬badA i (nth l i).2.1 j (nth l j).2.1 ∧ ¬badC i (nth l i).2.1 j (nth l j).2.1 := hK
      by_cases hkl : k < l.length
      · have hrk := hd k hkl
        have d1 := isBetween_ok k i (nth l i).2.1
        have d2 := isBetween_ok (nth l k).2.1 i (nth l i).2.1
        have d3 := isOutside_ok k i (nth l i).2.1
        have d4 := isOutside_ok (nth l k).2.1 i (nth l i).2.1
        have e1 : btwB k i (nth l i).2.1 = decide (min (i : Int) (nth l i).2.1 < k ∧ (k : Int) < max (i : Int) (nth l i).2.1) := rfl
        have e2 : btwB (nth l k).2.1 i (nth l i).2.1 = decide (min (i : Int) (nth l i).2.1 < (nth l k).2.1 ∧ (nth l k).2.1 < max (i : Int) (nth l i).2.1) := rfl
        have e3 : outsB k i (nth l i).2.1 = decide ((k : Int) < min (i : Int) (nth l i).2.1 ∨ max (i : Int) (nth l i).2.1 < k) := rfl
        have e4 : outsB (nth l k).2.1 i (nth l i).2.1 = decide ((nth l k).2.1 < min (i : Int) (nth l i).2.1 ∨ max (i : Int) (nth l i).2.1 < (nth l k).2.1) := rfl
        rw [e1] at d1
        rw [e2] at d2
        rw [e3] at d3
        rw [e4] at d4
        clear e1 e2 e3 e4
        repeat' (first | with_reducible refine inw ?_ | simp (disch := omega) only [go_sem, Nat.reduceEqDiff, ↓reduceIte, reduceCtorEq, Nat.reduceAdd, Nat.reduceMul, Int.reduceToNat, List.reduceReplicate, Nat.reduceLeDiff, Nat.reduceLT, Int.reduceLT, Int.reduceLE, Int.reduceEq] | (with_reducible apply call (d1)); (focus simp (disch := omega) only [go_sem, Nat.reduceEqDiff, ↓reduceIte, reduceCtorEq, Nat.reduceAdd, Nat.reduceMul, Int.reduceToNat, List.reduceReplicate, Nat.reduceLeDiff, Nat.reduceLT, Int.reduceLT, Int.reduceLE, Int.reduceEq] <;> rfl) | (with_reducible apply call (d2)); (focus simp (disch := omega) only [go_sem, Nat.reduceEqDiff, ↓reduceIte, reduceCtorEq, Nat.reduceAdd, Nat.reduceMul, Int.reduceToNat, List.reduceReplicate, Nat.reduceLeDiff, Nat.reduceLT, Int.reduceLT, Int.reduceLE, Int.reduceEq] <;> rfl) | (with_reducible apply call (d3)); (focus simp (disch := omega) only [go_sem, Nat.reduceEqDiff, ↓reduceIte, reduceCtorEq, Nat.reduceAdd, Nat.reduceMul, Int.reduceToNat, List.reduceReplicate, Nat.reduceLeDiff, Nat.reduceLT, Int.reduceLT, Int.reduceLE, Int.reduceEq] <;> rfl) | (with_reducible apply call (d4)); (focus simp (disch := omega) only [go_sem, Nat.reduceEqDiff, ↓reduceIte, reduceCtorEq, Nat.reduceAdd, Nat.reduceMul, Int.reduceToNat, List.reduceReplicate, Nat.reduceLeDiff, Nat.reduceLT, Int.reduceLT, Int.reduceLE, Int.reduceEq] <;> rfl) | with_reducible refine giv_intro fun _h => ?_ | with_reducible refine alt_intro ?_ fun _h => ?_ | with_reducible refine pickD_nil ?_ | (with_reducible refine brc (fun _h => ?_) fun _h => ?_) <;> first | (exfalso; omega) | simp only [decide_eq_false _h] | simp only [(_h : (_ : Bool) = _)] | simp only [decide_eq_true _h] | skip)
        all_goals first
          | exact ⟨k + 1, ⟨by omega, by omega, allN_step hK (by rw [badA, badC]; omega)⟩, by omega⟩
          | exact (allN_no hil (fun q => (q (by omega) k hkl).1 (by rw [badA]; omega))).symm
          | exact (allN_no hil (fun q => (q (by omega) k hkl).2 (by rw [badC]; omega))).symm
      · repeat' (first | with_reducible refine inw ?_ | simp (disch := omega) only [go_sem, Nat.reduceEqDiff, ↓reduceIte, reduceCtorEq, Nat.reduceAdd, Nat.reduceMul, Int.reduceToNat, List.reduceReplicate, Nat.reduceLeDiff, Nat.reduceLT, Int.reduceLT, Int.reduceLE, Int.reduceEq] | with_reducible refine giv_intro fun _h => ?_ | with_reducible refine alt_intro ?_ fun _h => ?_ | with_reducible refine pickD_nil ?_ | (with_reducible refine brc (fun _h => ?_) fun _h => ?_) <;> first | (exfalso; omega) | simp only [decide_eq_false _h] | simp only [(_h : (_ : Bool) = _)] | simp only [decide_eq_true _h] | skip)
        exact ⟨i + 1, ⟨by omega, by omega, allN_step hI (fun h j hj => hK j (by omega))⟩, by omega⟩
  · rw [flatB, allN_yes hil hI]
    repeat' (first | with_reducible refine inw ?_ | simp (disch := omega) only [go_sem, Nat.reduceEqDiff, ↓reduceIte, reduceCtorEq, Nat.reduceAdd, Nat.reduceMul, Int.reduceToNat, List.reduceReplicate, Nat.reduceLeDiff, Nat.reduceLT, Int.reduceLT, Int.reduceLE, Int.reduceEq] | with_reducible refine giv_intro fun _h => ?_ | with_reducible refine alt_intro ?_ fun _h => ?_ | with_reducible refine pickD_nil ?_ | (with_reducible refine brc (fun _h => ?_) fun _h => ?_) <;> first | (exfalso; omega) | simp only [decide_eq_false _h] | simp only [(_h : (_ : Bool) = _)] | simp only [decide_eq_true _h] | skip)
/-- ablaut/ablautref21.isTree: 1 parameters, 0 captured -/
def s63 : SC := .seq (.reg [o1 2 (.mv (cB false))])
  (.seq (.reg [o1 3 (.mv (cI 0))])
   (.seq (.seq (.reg [o1 4 (.mv (cI 0))])
     (.block 0 (.loop (.seq (.seq (.reg [o1 5 (.mv (.t 4)),
          o1 6 (.mv (.t 0)),
          o1 7 (.lenL (.t 6)),
          o1 8 (.bin .lss (.t 5) (.t 7))])
         (.cond (.t 8) (.skip) (.exit 0)))
        (.seq (.block 1 (.seq (.seq (.reg [o1 11 (.mv (.t 0)),
             o1 12 (.mv (.t 4)),
             o1 13 (.iaddr 3 (.t 11) (.t 12)),
             o1 14 (.faddr 1 (.t 13)),
             o1 15 (.load none (.t 14)),
             o1 16 (.bin .eql (.t 15) (cI (-2)))])
            (.cond (.t 16) (.seq (.reg [o1 2 (.mv (cB false))])
              (.ret)) (.skip)))
           (.seq (.reg [o1 17 (.mv (.t 0)),
             o1 18 (.mv (.t 4)),
             o1 19 (.iaddr 3 (.t 17) (.t 18)),
             o1 20 (.faddr 1 (.t 19)),
             o1 21 (.load none (.t 20)),
             o1 22 (.bin .eql (.t 21) (cI (-1)))])
            (.cond (.t 22) (.reg [o1 23 (.mv (.t 3)),
              o1 24 (.bin .add (.t 23) (cI 1)),
              o1 3 (.mv (.t 24))]) (.skip)))))
         (.reg [o1 9 (.mv (.t 4)),
          o1 10 (.bin .add (.t 9) (cI 1)),
          o1 4 (.mv (.t 10))]))))))
    (.seq (.reg [o1 25 (.mv (.t 0)),
      o1 26 (.call (.f 76) [(.t 25)]),
      o1 27 (.un .not (.t 26)),
      o1 28 (.mv (.t 27)),
      oT 29 (.mv (.t 3)) 28,
      oT 30 (.bin .eql (.t 29) (cI 1)) 28,
      oT 31 (.mv (.t 30)) 28,
      oF 32 (.mv (.t 0)) 31,
      oF 33 (.lenL (.t 32)) 31,
      oF 34 (.bin .eql (.t 33) (cI 0)) 31,
      oT 35 (.pick (.t 31) (cB true) (.t 34)) 28,
      o1 36 (.pick (.t 28) (.t 35) (cB false)),
      o1 2 (.mv (.t 36))])
     (.ret))))
theorem s63_ok : lookF Try.prog 63 = some (s63, 37, [.tmp 2]) := by kernel_rfl
theorem isTree_ok (l : List Hung) (hl : l.length ≤ 100000) (hd : Hds l) : Fn P 63 [sl l] (boolA (!ringsB l && wholeB l)) := by
  have c1 := hasRing_ok l hd hl
  (refine fn_look s63_ok (by simp) (by intro k; simp only [go_sem, Nat.reduceEqDiff, ↓reduceIte, reduceCtorEq, Nat.reduceAdd, Nat.reduceMul, Int.reduceToNat, List.reduceReplicate, Nat.reduceLeDiff, Nat.reduceLT, Int.reduceLT, Int.reduceLE, Int.reduceEq]) fun S hS => cwp_sound _ _ _ _ ?_; simp (disch := omega) only [s63, go_sem, Nat.reduceEqDiff, ↓reduceIte, reduceCtorEq, Nat.reduceAdd, Nat.reduceMul, Int.reduceToNat, List.reduceReplicate, Nat.reduceLeDiff, Nat.reduceLT, Int.reduceLT, Int.reduceLE, Int.reduceEq])
  repeat' (first | with_reducible refine inw ?_ | simp (disch := omega) only [go_sem, Nat.reduceEqDiff, ↓reduceIte, reduceCtorEq, Nat.reduceAdd, Nat.reduceMul, Int.reduceToNat, List.reduceReplicate, Nat.reduceLeDiff, Nat.reduceLT, Int.reduceLT, Int.reduceLE, Int.reduceEq] | with_reducible refine giv_intro fun _h => ?_ | with_reducible refine alt_intro ?_ fun _h => ?_ | with_reducible refine pickD_nil ?_ | (with_reducible refine brc (fun _h => ?_) fun _h => ?_) <;> first | (exfalso; omega) | simp only [decide_eq_false _h] | simp only [(_h : (_ : Bool) = _)] | simp only [decide_eq_true _h] | skip)
  (refine loopC hS [0] (by simp only [go_sem, Nat.reduceEqDiff, ↓reduceIte, reduceCtorEq, Nat.reduceAdd, Nat.reduceMul, Int.reduceToNat, List.reduceReplicate, Nat.reduceLeDiff, Nat.reduceLT, Int.reduceLT, Int.reduceLE, Int.reduceEq]; try rfl) (fun (⟨i, c⟩ : Nat × Nat) => [(3, intA c), (4, intA i)]) (fun (⟨i, c⟩ : Nat × Nat) => []) (fun (⟨i, c⟩ : Nat × Nat) => i ≤ l.length ∧ c ≤ i ∧ cntF l = c + cntF (l.drop i) ∧ openB l = openB (l.drop i)) (fun (⟨i, c⟩ : Nat × Nat) => l.length - i) ((0, 0)) ?h06 ?hn6 ?rd6; case hn6 => (intro s; first | rfl | (rcases s with ⟨_, _⟩; rfl) | (rcases s with ⟨_, _, _⟩; rfl) | (rcases s with ⟨_, _, _, _⟩; rfl) | (rcases s with ⟨_, _, _, _, _⟩; rfl)))
  · simp (disch := omega) only [go_sem, Nat.reduceEqDiff, ↓reduceIte, reduceCtorEq, Nat.reduceAdd, Nat.reduceMul, Int.reduceToNat, List.reduceReplicate, Nat.reduceLeDiff, Nat.reduceLT, Int.reduceLT, Int.reduceLE, Int.reduceEq]; simp
  rintro ⟨i, c⟩ ⟨hi, hc, hC, hO⟩
  replace hi : i ≤ l.length := hi
  replace hc : c ≤ i := hc
  replace hC : cntF l = c + cntF (l.drop i) := hC
  replace hO : openB l = openB (l.drop i) := hO
  by_cases hil : i < l.length
  · rw [nth_drop hil, cntF] at hC
    rw [nth_drop hil] at hO
    have hO2 : openB l = (decide ((nth l i).2.1 = -2) || openB (l.drop (i + 1))) := hO
    repeat' (first | with_reducible refine inw ?_ | simp (disch := omega) only [go_sem, Nat.reduceEqDiff, ↓reduceIte, reduceCtorEq, Nat.reduceAdd, Nat.reduceMul, Int.reduceToNat, List.reduceReplicate, Nat.reduceLeDiff, Nat.reduceLT, Int.reduceLT, Int.reduceLE, Int.reduceEq] | with_reducible refine giv_intro fun _h => ?_ | with_reducible refine alt_intro ?_ fun _h => ?_ | with_reducible refine pickD_nil ?_ | (with_reducible refine brc (fun _h => ?_) fun _h => ?_) <;> first | (exfalso; omega) | simp only [decide_eq_false _h] | simp only [(_h : (_ : Bool) = _)] | simp only [decide_eq_true _h] | skip)
    · rw [wholeB, hO2, decide_eq_true _h, Bool.true_or, Bool.not_true, Bool.false_and, Bool.and_false]
    · rw [decide_eq_false (by assumption), Bool.false_or] at hO2
      rw [if_pos _h] at hC
      refine ⟨(i + 1, c + 1), ?_⟩
      dsimp only
      exact ⟨⟨by omega, by omega, by omega, by omega, hO2⟩, by omega, by omega⟩
    · rw [decide_eq_false (by assumption), Bool.false_or] at hO2
      rw [if_neg _h] at hC
      refine ⟨(i + 1, c), ?_⟩
      dsimp only
      exact ⟨⟨by omega, by omega, by omega, by omega, hO2⟩, rfl, by omega⟩
  · rw [List.drop_eq_nil_of_le (by omega)] at hC hO
    have hC2 : cntF l = c := hC
    have hO2 : openB l = false := hO
    rw [wholeB, hO2, hC2]
    repeat' (first | with_reducible refine inw ?_ | simp (disch := omega) only [go_sem, Nat.reduceEqDiff, ↓reduceIte, reduceCtorEq, Nat.reduceAdd, Nat.reduceMul, Int.reduceToNat, List.reduceReplicate, Nat.reduceLeDiff, Nat.reduceLT, Int.reduceLT, Int.reduceLE, Int.reduceEq] | (with_reducible apply call (c1)); (focus simp (disch := omega) only [go_sem, Nat.reduceEqDiff, ↓reduceIte, reduceCtorEq, Nat.reduceAdd, Nat.reduceMul, Int.reduceToNat, List.reduceReplicate, Nat.reduceLeDiff, Nat.reduceLT, Int.reduceLT, Int.reduceLE, Int.reduceEq] <;> rfl) | with_reducible refine giv_intro fun _h => ?_ | with_reducible refine alt_intro ?_ fun _h => ?_ | with_reducible refine pickD_nil ?_ | (with_reducible refine brc (fun _h => ?_) fun _h => ?_) <;> first | (exfalso; omega) | simp only [decide_eq_false _h] | simp only [(_h : (_ : Bool) = _)] | simp only [decide_eq_true _h] | skip)
    all_goals first
      | rfl
      | (rw [decide_eq_true (p := c = 1) (by omega)]; rfl)
      | (rw [decide_eq_false (p := c = 1) (by omega)]; rfl)
      | (rw [decide_eq_false (p := c = 1) (by omega), Bool.true_and, Bool.true_and, Bool.false_or, decide_eq_decide]; omega)
/-! ### the moves -/
def freeB (l : List Hung) (g : List Bool) (a : Int) : Bool := decide (∀ k, k < l.length → ¬((nth l k).2.1 = a ∧ nth g k = false))
/-- ablaut/ablautref21.isFree: 3 parameters, 0 captured -/
def s65 : SC := .seq (.reg [o1 6 (.mv (cB false))])
  (.seq (.seq (.reg [o1 7 (.mv (cI 0))])
    (.block 0 (.loop (.seq (.seq (.reg [o1 8 (.mv (.t 7)),
         o1 9 (.mv (.t 0)),
         o1 10 (.lenL (.t 9)),
         o1 11 (.bin .lss (.t 8) (.t 10))])
        (.cond (.t 11) (.skip) (.exit 0)))
       (.seq (.block 1 (.seq (.reg [o1 14 (.mv (.t 0)),
           o1 15 (.mv (.t 7)),
           o1 16 (.iaddr 3 (.t 14) (.t 15)),
           o1 17 (.faddr 1 (.t 16)),
           o1 18 (.load none (.t 17)),
           o1 19 (.mv (.t 2)),
           o1 20 (.bin .eql (.t 18) (.t 19)),
           o1 21 (.mv (.t 20)),
           oT 22 (.mv (.t 1)) 21,
           oT 23 (.mv (.t 7)) 21,
           oT 24 (.iaddr 1 (.t 22) (.t 23)) 21,
           oT 25 (.load none (.t 24)) 21,
           oT 26 (.un .not (.t 25)) 21,
           o1 27 (.pick (.t 21) (.t 26) (cB false))])
          (.cond (.t 27) (.seq (.reg [o1 6 (.mv (cB false))])
            (.ret)) (.skip))))
        (.reg [o1 12 (.mv (.t 7)),
         o1 13 (.bin .add (.t 12) (cI 1)),
         o1 7 (.mv (.t 13))]))))))
   (.seq (.reg [o1 6 (.mv (cB true))])
    (.ret)))
theorem s65_ok : lookF Try.prog 65 = some (s65, 28, [.tmp 6]) := by kernel_rfl
theorem isFree_ok (l : List Hung) (g : List Bool) (a : Int) (hl : l.length ≤ 200) (hg : g.length = l.length) : Fn P 65 [sl l, sl g, intA a] (boolA (freeB l g a)) := by
  (refine fn_look s65_ok (by simp) (by intro k; simp only [go_sem, Nat.reduceEqDiff, ↓reduceIte, reduceCtorEq, Nat.reduceAdd, Nat.reduceMul, Int.reduceToNat, List.reduceReplicate, Nat.reduceLeDiff, Nat.reduceLT, Int.reduceLT, Int.reduceLE, Int.reduceEq]) fun S hS => cwp_sound _ _ _ _ ?_; simp (disch := omega) only [s65, go_sem, Nat.reduceEqDiff, ↓reduceIte, reduceCtorEq, Nat.reduceAdd, Nat.reduceMul, Int.reduceToNat, List.reduceReplicate, Nat.reduceLeDiff, Nat.reduceLT, Int.reduceLT, Int.reduceLE, Int.reduceEq])
  repeat' (first | with_reducible refine inw ?_ | simp (disch := omega) only [go_sem, Nat.reduceEqDiff, ↓reduceIte, reduceCtorEq, Nat.reduceAdd, Nat.reduceMul, Int.reduceToNat, List.reduceReplicate, Nat.reduceLeDiff, Nat.reduceLT, Int.reduceLT, Int.reduceLE, Int.reduceEq] | with_reducible refine giv_intro fun _h => ?_ | with_reducible refine alt_intro ?_ fun _h => ?_ | with_reducible refine pickD_nil ?_ | (with_reducible refine brc (fun _h => ?_) fun _h => ?_) <;> first | (exfalso; omega) | simp only [decide_eq_false _h] | simp only [(_h : (_ : Bool) = _)] | simp only [decide_eq_true _h] | skip)
  (refine loopC hS [0, 1, 2] (by simp only [go_sem, Nat.reduceEqDiff, ↓reduceIte, reduceCtorEq, Nat.reduceAdd, Nat.reduceMul, Int.reduceToNat, List.reduceReplicate, Nat.reduceLeDiff, Nat.reduceLT, Int.reduceLT, Int.reduceLE, Int.reduceEq]; try rfl) (fun (i : Nat) => [(7, intA i)]) (fun (i : Nat) => []) (fun (i : Nat) => i ≤ l.length ∧ ∀ j, j < i → ¬((nth l j).2.1 = a ∧ nth g j = false)) (fun (i : Nat) => l.length - i) (0) ?h07 ?hn7 ?rd7; case hn7 => (intro s; first | rfl | (rcases s with ⟨_, _⟩; rfl) | (rcases s with ⟨_, _, _⟩; rfl) | (rcases s with ⟨_, _, _, _⟩; rfl) | (rcases s with ⟨_, _, _, _, _⟩; rfl)))
  · simp (disch := omega) only [go_sem, Nat.reduceEqDiff, ↓reduceIte, reduceCtorEq, Nat.reduceAdd, Nat.reduceMul, Int.reduceToNat, List.reduceReplicate, Nat.reduceLeDiff, Nat.reduceLT, Int.reduceLT, Int.reduceLE, Int.reduceEq]; simp
  rintro i ⟨hi, hI⟩
  replace hi : i ≤ l.length := hi
  replace hI : ∀ j, j < i → ¬((nth l j).2.1 = a ∧ nth g j = false) := hI
  by_cases hil : i < l.length
  · repeat' (first | with_reducible refine inw ?_ | simp (disch := omega) only [go_sem, Nat.reduceEqDiff, ↓reduceIte, reduceCtorEq, Nat.reduceAdd, Nat.reduceMul, Int.reduceToNat, List.reduceReplicate, Nat.reduceLeDiff, Nat.reduceLT, Int.reduceLT, Int.reduceLE, Int.reduceEq] | with_reducible refine giv_intro fun _h => ?_ | with_reducible refine alt_intro ?_ fun _h => ?_ | with_reducible refine pickD_nil ?_ | (with_reducible refine brc (fun _h => ?_) fun _h => ?_) <;> first | (exfalso; omega) | simp only [decide_eq_false _h] | simp only [(_h : (_ : Bool) = _)] | simp only [decide_eq_true _h] | skip)
    all_goals first
      | exact (allN_no hil (fun q => q ⟨by assumption, by assumption⟩)).symm
      | exact ⟨i + 1, ⟨by omega, by omega, allN_step hI (fun h => by first | omega | (rw [h.2] at _h; cases _h))⟩, by omega⟩
  · rw [freeB, allN_yes hil hI]
    repeat' (first | with_reducible refine inw ?_ | simp (disch := omega) only [go_sem, Nat.reduceEqDiff, ↓reduceIte, reduceCtorEq, Nat.reduceAdd, Nat.reduceMul, Int.reduceToNat, List.reduceReplicate, Nat.reduceLeDiff, Nat.reduceLT, Int.reduceLT, Int.reduceLE, Int.reduceEq] | with_reducible refine giv_intro fun _h => ?_ | with_reducible refine alt_intro ?_ fun _h => ?_ | with_reducible refine pickD_nil ?_ | (with_reducible refine brc (fun _h => ?_) fun _h => ?_) <;> first | (exfalso; omega) | simp only [decide_eq_false _h] | simp only [(_h : (_ : Bool) = _)] | simp only [decide_eq_true _h] | skip)
/-- One move: its number, stack, next node, and which nodes are gone. -/
def mvS (l : List Hung) (s : List Int) (nx : Nat) (g : List Bool) : Option (Int × List Int × Nat × List Bool) :=
  if 1 < s.length ∧ (nth l (nth s (s.length - 2)).toNat).2.1 = nth s (s.length - 1) ∧ freeB l g (nth s (s.length - 2)) = true then
    some (1, s.take (s.length - 2) ++ [nth s (s.length - 1)], nx, putAt g (nth s (s.length - 2)).toNat true)
  else if 1 < s.length ∧ (nth l (nth s (s.length - 1)).toNat).2.1 = nth s (s.length - 2) ∧ freeB l g (nth s (s.length - 1)) = true then
    some (2, s.take (s.length - 1), nx, putAt g (nth s (s.length - 1)).toNat true)
  else if nx < l.length then some (0, s ++ [(nx : Int)], nx + 1, g) else none
def mvF (l : List Hung) : Nat → List Int → List Int → Nat → List Bool → Option (List Int)
  | 0, out, _, _, _ => some out
  | n + 1, out, s, nx, g => if nx < l.length ∨ 1 < s.length then (match mvS l s nx g with
      | some (m, s', nx', g') => mvF l n (out ++ [m]) s' nx' g'
      | none => none) else some out
def movesR (l : List Hung) : Option (List Int) := mvF l (2 * l.length) [] [] 0 (List.replicate l.length false)
def movesT (l : List Hung) : List Int × Bool × Int := if valE l ≠ 0 then ([], false, valE l) else if (wholeB l && flatB l) = true then (match movesR l with
  | some o => (o, true, 0)
  | none => ([], false, 0)) else ([], false, 0)
/-- What holds of stack, next node and what is gone. -/
structure MvI (l : List Hung) (s : List Int) (nx : Nat) (g : List Bool) : Prop where
  le : nx ≤ l.length
  len : g.length = l.length
  st : ∀ p, p < s.length → 0 ≤ nth s p ∧ nth s p < nx ∧ nth g (nth s p).toNat = false
  asc : ∀ p q, p < q → q < s.length → nth s p < nth s q
  more : ∀ k, nx ≤ k → k < l.length → nth g k = false
theorem nth_rep {α : Type} {q : Nat} [Enc α q] {n p : Nat} (x : α) (h : p < n) : nth (List.replicate n x) p = x := by simp [nth, h]
theorem mvI_0 (l : List Hung) : MvI l [] 0 (List.replicate l.length false) := ⟨Nat.zero_le _, by simp, fun p hp => by simp at hp, fun p q _ hq => by simp at hq, fun k _ hk => nth_rep _ hk⟩
theorem mvI_left {l : List Hung} {s : List Int} {nx : Nat} {g : List Bool} (h : MvI l s nx g) (h1 : 1 < s.length) : MvI l (s.take (s.length - 2) ++ [nth s (s.length - 1)]) nx (putAt g (nth s (s.length - 2)).toNat true) := by
  have a := h.st (s.length - 2) (by omega)
  have b := h.st (s.length - 1) (by omega)
  have ab := h.asc (s.length - 2) (s.length - 1) (by omega) (by omega)
  have hnx := h.le
  have hg : (nth s (s.length - 2)).toNat < g.length := by rw [h.len]; omega
  have hl : (s.take (s.length - 2)).length = s.length - 2 := by rw [List.length_take]; omega
  have key : ∀ p, nth (s.take (s.length - 2) ++ [nth s (s.length - 1)]) p = if p < s.length - 2 then nth s p else nth [nth s (s.length - 1)] (p - (s.length - 2)) := fun p => by
    rw [nth_app, hl]
    split
    · rename_i q; rw [nth_take q]
    · rfl
  have key2 : ∀ p, p < s.length - 1 → nth (s.take (s.length - 2) ++ [nth s (s.length - 1)]) p = nth s (if p < s.length - 2 then p else s.length - 1) := fun p hp => by
    rw [key]
    split
    · rfl
    · rw [show p - (s.length - 2) = 0 by omega, nth_zero]
  have hlen : (s.take (s.length - 2) ++ [nth s (s.length - 1)]).length = s.length - 1 := by rw [List.length_append, hl, List.length_singleton]; omega
  refine ⟨h.le, by rw [putAt_len hg]; exact h.len, fun p hp => ?_, fun p q hpq hq => ?_, fun k h2 h3 => ?_⟩
  · rw [hlen] at hp
    rw [key2 p hp]
    have c := h.st (if p < s.length - 2 then p else s.length - 1) (by split <;> omega)
    refine ⟨c.1, c.2.1, ?_⟩
    rw [nth_put hg, if_neg]
    · exact c.2.2
    · split at c
      · rename_i q; rw [if_pos q]; have := h.asc p (s.length - 2) q (by omega); omega
      · rename_i q; rw [if_neg q]; omega
  · rw [hlen] at hq
    rw [key2 p (by omega), key2 q hq]
    exact h.asc _ _ (by split <;> split <;> omega) (by split <;> omega)
  · rw [nth_put hg, if_neg (by omega)]; exact h.more k h2 h3
theorem mvI_right {l : List Hung} {s : List Int} {nx : Nat} {g : List Bool} (h : MvI l s nx g) (h1 : 1 < s.length) : MvI l (s.take (s.length - 1)) nx (putAt g (nth s (s.length - 1)).toNat true) := by
  have b := h.st (s.length - 1) (by omega)
  have hnx := h.le
  have hg : (nth s (s.length - 1)).toNat < g.length := by rw [h.len]; omega
  have hl : (s.take (s.length - 1)).length = s.length - 1 := by rw [List.length_take]; omega
  refine ⟨h.le, by rw [putAt_len hg]; exact h.len, fun p hp => ?_, fun p q hpq hq => ?_, fun k h2 h3 => ?_⟩
  · rw [hl] at hp
    rw [nth_take hp]
    have c := h.st p (by omega)
    have d := h.asc p (s.length - 1) hp (by omega)
    refine ⟨c.1, c.2.1, ?_⟩
    rw [nth_put hg, if_neg (by omega)]
    exact c.2.2
  · rw [hl] at hq
    rw [nth_take (by omega), nth_take hq]
    exact h.asc _ _ hpq (by omega)
  · rw [nth_put hg, if_neg (by omega)]; exact h.more k h2 h3
theorem mvI_shift {l : List Hung} {s : List Int} {nx : Nat} {g : List Bool} (h : MvI l s nx g) (h1 : nx < l.length) : MvI l (s ++ [(nx : Int)]) (nx + 1) g := by
  have key : ∀ p, nth (s ++ [(nx : Int)]) p = if p < s.length then nth s p else nth [(nx : Int)] (p - s.length) := fun p => nth_app
  refine ⟨h1, h.len, fun p hp => ?_, fun p q hpq hq => ?_, fun k h2 h3 => h.more k (by omega) h3⟩
  · rw [List.length_append, List.length_singleton] at hp
    rw [key]
    split
    · rename_i q; have := h.st p q; exact ⟨this.1, by omega, this.2.2⟩
    · rw [show p - s.length = 0 by omega, nth_zero]
      exact ⟨by omega, by omega, by rw [Int.toNat_natCast]; exact h.more nx (Nat.le_refl _) h1⟩
  · rw [List.length_append, List.length_singleton] at hq
    rw [key, key, if_pos (by omega)]
    split
    · rename_i h2; exact h.asc p q hpq h2
    · rw [show q - s.length = 0 by omega, nth_zero]
      exact (h.st p (by omega)).2.1
theorem notA {p q : Prop} {b : Bool} (h : ¬(p ∧ q ∧ b = true)) (h1 : p) : ¬q ∨ b = false := by
  by_cases h2 : q
  · right; cases b
    · rfl
    · exact absurd ⟨h1, h2, rfl⟩ h
  · exact .inl h2
/-- ablaut/ablautref21.Moves: 1 parameters, 0 captured -/
def s34 : SC := .seq (.reg [o1 2 (.mv (.c (.slice none 0 0))),
   o1 3 (.mv (cB false)),
   o1 4 (.mv (cI 0))])
  (.seq (.seq (.reg [o1 11 (.mv (.t 0)),
     o1 12 (.call (.f 45) [(.t 11)]),
     o1 5 (.mv (.t 12))])
    (.seq (.reg [o1 13 (.mv (.t 5)),
      o1 14 (.bin .neq (.t 13) (cI 0))])
     (.cond (.t 14) (.seq (.reg [o1 15 (.mv (.t 5)),
        o1 2 (.mv (.c (.slice none 0 0))),
        o1 3 (.mv (cB false)),
        o1 4 (.mv (.t 15))])
       (.ret)) (.skip))))
   (.seq (.seq (.reg [o1 16 (.mv (.t 0)),
      o1 17 (.call (.f 63) [(.t 16)]),
      o1 18 (.un .not (.t 17)),
      o1 19 (.mv (.t 18)),
      oF 20 (.mv (.t 0)) 19,
      oF 21 (.call (.f 64) [(.t 20)]) 19,
      oF 22 (.un .not (.t 21)) 19,
      o1 23 (.pick (.t 19) (cB true) (.t 22))])
     (.cond (.t 23) (.seq (.reg [o1 2 (.mv (.c (.slice none 0 0))),
        o1 3 (.mv (cB false)),
        o1 4 (.mv (cI 0))])
       (.ret)) (.skip)))
    (.seq (.reg [o1 6 (.mv (.c (.slice none 0 0))),
      o1 7 (.mv (.c (.slice none 0 0)))])
     (.seq (.reg [o1 24 (.mv (.t 0)),
       o1 25 (.lenL (.t 24)),
       o1 26 (.mksl 4 1 1 [(.bool false)] (.t 25) (.t 25)),
       o1 8 (.mv (.t 26))])
      (.seq (.seq (.reg [o1 9 (.mv (cI 0))])
        (.block 0 (.loop (.seq (.seq (.reg [o1 27 (.mv (.t 9)),
             o1 28 (.mv (.t 0)),
             o1 29 (.lenL (.t 28)),
             o1 30 (.bin .lss (.t 27) (.t 29)),
             o1 31 (.mv (.t 30)),
             oF 32 (.mv (.t 7)) 31,
             oF 33 (.lenL (.t 32)) 31,
             oF 34 (.bin .gtr (.t 33) (cI 1)) 31,
             o1 35 (.pick (.t 31) (cB true) (.t 34))])
            (.cond (.t 35) (.skip) (.exit 0)))
           (.block 1 (.seq (.reg [o1 36 (.mv (.t 7)),
              o1 37 (.lenL (.t 36)),
              o1 10 (.mv (.t 37))])
             (.block 2 (.seq (.regD [o1 39 (.mv (.t 10)),
                o1 40 (.bin .gtr (.t 39) (cI 1)),
                o1 41 (.mv (.t 40)),
                oT 42 (.mv (.t 0)) 41,
                oT 43 (.mv (.t 7)) 41,
                oT 44 (.mv (.t 10)) 41,
                oT 45 (.bin .sub (.t 44) (cI 2)) 41,
                oT 46 (.iaddr 1 (.t 43) (.t 45)) 41,
                oT 47 (.load none (.t 46)) 41,
                oT 48 (.iaddr 3 (.t 42) (.t 47)) 41,
                oT 49 (.faddr 1 (.t 48)) 41,
                oT 50 (.load none (.t 49)) 41,
                oT 51 (.mv (.t 7)) 41,
                oT 52 (.mv (.t 10)) 41,
                oT 53 (.bin .sub (.t 52) (cI 1)) 41,
                oT 54 (.iaddr 1 (.t 51) (.t 53)) 41,
                oT 55 (.load none (.t 54)) 41,
                oT 56 (.bin .eql (.t 50) (.t 55)) 41,
                o1 57 (.pick (.t 41) (.t 56) (cB false)),
                o1 58 (.mv (.t 57)),
                oT 59 (.mv (.t 0)) 58,
                oT 60 (.mv (.t 8)) 58,
                oT 61 (.mv (.t 7)) 58,
                oT 62 (.mv (.t 10)) 58,
                oT 63 (.bin .sub (.t 62) (cI 2)) 58,
                oT 64 (.iaddr 1 (.t 61) (.t 63)) 58,
                oT 65 (.load none (.t 64)) 58,
                oT 66 (.call (.f 65) [(.t 59), (.t 60), (.t 65)]) 58,
                o1 67 (.pick (.t 58) (.t 66) (cB false)),
                o1 38 (.mv (.t 67))])
               (.cond (.t 38) (.seq (.reg [o1 68 (.mv (.t 6)),
                  o1 69 (.buildSl 3 1 1 [(.int .i64 0)] [(0, 1, (cI 1))]),
                  o1 70 (.app 3 1 8 (.t 68) (.t 69)),
                  o1 6 (.mv (.t 70))])
                 (.seq (.reg [o1 71 (.mv (.t 8)),
                   o1 72 (.mv (.t 7)),
                   o1 73 (.mv (.t 10)),
                   o1 74 (.bin .sub (.t 73) (cI 2)),
                   o1 75 (.iaddr 1 (.t 72) (.t 74)),
                   o1 76 (.load none (.t 75)),
                   o1 77 (.iaddr 1 (.t 71) (.t 76)),
                   o0 (.store 1 (.t 77) (cB true))])
                  (.regG [(true, o1 79 (.mv (.t 7))),
                   (true, o1 80 (.mv (.t 10))),
                   (true, o1 81 (.bin .sub (.t 80) (cI 2))),
                   (true, o1 82 (.sl 1 (.t 79) none (some (.t 81)))),
                   (true, o1 84 (.mv (.t 7))),
                   (true, o1 85 (.mv (.t 10))),
                   (true, o1 86 (.bin .sub (.t 85) (cI 1))),
                   (true, o1 87 (.iaddr 1 (.t 84) (.t 86))),
                   (true, o1 88 (.load none (.t 87))),
                   (true, o1 89 (.buildSl 3 1 1 [(.int .i64 0)] [(0, 1, (.t 88))])),
                   (true, o1 78 (.buildSl 3 1 0 [(.int .i64 0)] [])),
                   (true, o1 83 (.app 3 1 8 (.t 78) (.t 82))),
                   (false, o1 90 (.app 3 1 8 (.t 83) (.t 89))),
                   (false, o1 7 (.mv (.t 90)))]))) (.seq (.regD [o1 92 (.mv (.t 10)),
                  o1 93 (.bin .gtr (.t 92) (cI 1)),
                  o1 94 (.mv (.t 93)),
                  oT 95 (.mv (.t 0)) 94,
                  oT 96 (.mv (.t 7)) 94,
                  oT 97 (.mv (.t 10)) 94,
                  oT 98 (.bin .sub (.t 97) (cI 1)) 94,
                  oT 99 (.iaddr 1 (.t 96) (.t 98)) 94,
                  oT 100 (.load none (.t 99)) 94,
                  oT 101 (.iaddr 3 (.t 95) (.t 100)) 94,
                  oT 102 (.faddr 1 (.t 101)) 94,
                  oT 103 (.load none (.t 102)) 94,
                  oT 104 (.mv (.t 7)) 94,
                  oT 105 (.mv (.t 10)) 94,
                  oT 106 (.bin .sub (.t 105) (cI 2)) 94,
                  oT 107 (.iaddr 1 (.t 104) (.t 106)) 94,
                  oT 108 (.load none (.t 107)) 94,
                  oT 109 (.bin .eql (.t 103) (.t 108)) 94,
                  o1 110 (.pick (.t 94) (.t 109) (cB false)),
                  o1 111 (.mv (.t 110)),
                  oT 112 (.mv (.t 0)) 111,
                  oT 113 (.mv (.t 8)) 111,
                  oT 114 (.mv (.t 7)) 111,
                  oT 115 (.mv (.t 10)) 111,
                  oT 116 (.bin .sub (.t 115) (cI 1)) 111,
                  oT 117 (.iaddr 1 (.t 114) (.t 116)) 111,
                  oT 118 (.load none (.t 117)) 111,
                  oT 119 (.call (.f 65) [(.t 112), (.t 113), (.t 118)]) 111,
                  o1 120 (.pick (.t 111) (.t 119) (cB false)),
                  o1 91 (.mv (.t 120))])
                 (.cond (.t 91) (.seq (.reg [o1 121 (.mv (.t 6)),
                    o1 122 (.buildSl 3 1 1 [(.int .i64 0)] [(0, 1, (cI 2))]),
                    o1 123 (.app 3 1 8 (.t 121) (.t 122)),
                    o1 6 (.mv (.t 123))])
                   (.seq (.reg [o1 124 (.mv (.t 8)),
                     o1 125 (.mv (.t 7)),
                     o1 126 (.mv (.t 10)),
                     o1 127 (.bin .sub (.t 126) (cI 1)),
                     o1 128 (.iaddr 1 (.t 125) (.t 127)),
                     o1 129 (.load none (.t 128)),
                     o1 130 (.iaddr 1 (.t 124) (.t 129)),
                     o0 (.store 1 (.t 130) (cB true))])
                    (.reg [o1 131 (.mv (.t 7)),
                     o1 132 (.mv (.t 10)),
                     o1 133 (.bin .sub (.t 132) (cI 1)),
                     o1 134 (.sl 1 (.t 131) none (some (.t 133))),
                     o1 7 (.mv (.t 134))]))) (.seq (.reg [o1 136 (.mv (.t 9)),
                    o1 137 (.mv (.t 0)),
                    o1 138 (.lenL (.t 137)),
                    o1 139 (.bin .lss (.t 136) (.t 138)),
                    o1 135 (.mv (.t 139))])
                   (.cond (.t 135) (.seq (.reg [o1 140 (.mv (.t 6)),
                      o1 141 (.buildSl 3 1 1 [(.int .i64 0)] [(0, 1, (cI 0))]),
                      o1 142 (.app 3 1 8 (.t 140) (.t 141)),
                      o1 6 (.mv (.t 142))])
                     (.seq (.reg [o1 143 (.buildSl 3 1 0 [(.int .i64 0)] []),
                       o1 144 (.mv (.t 7)),
                       o1 145 (.app 3 1 8 (.t 143) (.t 144)),
                       o1 146 (.mv (.t 9)),
                       o1 147 (.buildSl 3 1 1 [(.int .i64 0)] [(0, 1, (.t 146))]),
                       o1 148 (.app 3 1 8 (.t 145) (.t 147)),
                       o1 7 (.mv (.t 148))])
                      (.reg [o1 149 (.mv (.t 9)),
                       o1 150 (.bin .add (.t 149) (cI 1)),
                       o1 9 (.mv (.t 150))]))) (.seq (.reg [o1 2 (.mv (.c (.slice none 0 0))),
                      o1 3 (.mv (cB false)),
                      o1 4 (.mv (cI 0))])
                     (.ret)))))))))))))))
       (.seq (.reg [o1 151 (.mv (.t 6)),
         o1 2 (.mv (.t 151)),
         o1 3 (.mv (cB true)),
         o1 4 (.mv (cI 0))])
        (.ret)))))))
theorem s34_ok : lookF Try.prog 34 = some (s34, 152, [.tmp 2, .tmp 3, .tmp 4]) := by kernel_rfl
set_option maxHeartbeats 4000000 in
theorem rMoves_ok (l : List Hung) (hs : SmH l) : Fn P 34 [sl l] (triR (movesT l)) := by
  have c1 := rValidate_ok l hs
  by_cases h1 : valE l = 0
  · obtain ⟨v1, v2, v3⟩ := valE_ok h1
    have c2 := isTree_ok l (by omega) v2
    rw [(ringsB_ends v2).2 v3, Bool.not_false, Bool.true_and] at c2
    have c3 := isFlat_ok l v1 v2
    rw [h1] at c1
    rw [movesT, if_neg (by omega)]
    by_cases hw : wholeB l = true
    · by_cases hf : flatB l = true
      · rw [hw] at c2
        rw [hf] at c3
        rw [hw, hf, Bool.and_self, if_pos rfl]
        (refine fn_look s34_ok (by simp) (by intro k; simp only [go_sem, Nat.reduceEqDiff, ↓reduceIte, reduceCtorEq, Nat.reduceAdd, Nat.reduceMul, Int.reduceToNat, List.reduceReplicate, Nat.reduceLeDiff, Nat.reduceLT, Int.reduceLT, Int.reduceLE, Int.reduceEq]) fun S hS => cwp_sound _ _ _ _ ?_; simp (disch := omega) only [s34, go_sem, Nat.reduceEqDiff, ↓reduceIte, reduceCtorEq, Nat.reduceAdd, Nat.reduceMul, Int.reduceToNat, List.reduceReplicate, Nat.reduceLeDiff, Nat.reduceLT, Int.reduceLT, Int.reduceLE, Int.reduceEq])
        repeat' (first | with_reducible refine inw ?_ | simp (disch := omega) only [go_sem, Nat.reduceEqDiff, ↓reduceIte, reduceCtorEq, Nat.reduceAdd, Nat.reduceMul, Int.reduceToNat, List.reduceReplicate, Nat.reduceLeDiff, Nat.reduceLT, Int.reduceLT, Int.reduceLE, Int.reduceEq] | (with_reducible apply call (c1)); (focus simp (disch := omega) only [go_sem, Nat.reduceEqDiff, ↓reduceIte, reduceCtorEq, Nat.reduceAdd, Nat.reduceMul, Int.reduceToNat, List.reduceReplicate, Nat.reduceLeDiff, Nat.reduceLT, Int.reduceLT, Int.reduceLE, Int.reduceEq] <;> rfl) | (with_reducible apply call (c2)); (focus simp (disch := omega) only [go_sem, Nat.reduceEqDiff, ↓reduceIte, reduceCtorEq, Nat.reduceAdd, Nat.reduceMul, Int.reduceToNat, List.reduceReplicate, Nat.reduceLeDiff, Nat.reduceLT, Int.reduceLT, Int.reduceLE, Int.reduceEq] <;> rfl) | (with_reducible apply call (c3)); (focus simp (disch := omega) only [go_sem, Nat.reduceEqDiff, ↓reduceIte, reduceCtorEq, Nat.reduceAdd, Nat.reduceMul, Int.reduceToNat, List.reduceReplicate, Nat.reduceLeDiff, Nat.reduceLT, Int.reduceLT, Int.reduceLE, Int.reduceEq] <;> rfl) | with_reducible refine giv_intro fun _h => ?_ | with_reducible refine alt_intro ?_ fun _h => ?_ | with_reducible refine pickD_nil ?_ | (with_reducible refine brc (fun _h => ?_) fun _h => ?_) <;> first | (exfalso; omega) | simp only [decide_eq_false _h] | simp only [(_h : (_ : Bool) = _)] | simp only [decide_eq_true _h] | skip)
        refine nil_row 6 3 1 (by simp (disch := omega) only [go_sem, Nat.reduceEqDiff, ↓reduceIte, reduceCtorEq, Nat.reduceAdd, Nat.reduceMul, Int.reduceToNat, List.reduceReplicate, Nat.reduceLeDiff, Nat.reduceLT, Int.reduceLT, Int.reduceLE, Int.reduceEq]) ?_
        (refine loopV hS [0, 8] (by simp only [go_sem, Nat.reduceEqDiff, ↓reduceIte, reduceCtorEq, Nat.reduceAdd, Nat.reduceMul, Int.reduceToNat, List.reduceReplicate, Nat.reduceLeDiff, Nat.reduceLT, Int.reduceLT, Int.reduceLE, Int.reduceEq]; try rfl) (fun (⟨n, out, s, nx, g⟩ : Nat × List Int × List Int × Nat × List Bool) => [(6, own S 1 out), (7, sl s), (9, intA nx)]) (fun (⟨n, out, s, nx, g⟩ : Nat × List Int × List Int × Nat × List Bool) => [rowO 4 g, rowO 3 out]) (fun (⟨n, out, s, nx, g⟩ : Nat × List Int × List Int × Nat × List Bool) => MvI l s nx g ∧ 2 * (l.length - nx) + s.length = n ∧ out.length + n = 2 * l.length ∧ movesR l = mvF l n out s nx g) (fun (⟨n, out, s, nx, g⟩ : Nat × List Int × List Int × Nat × List Bool) => n) ((2 * l.length, [], [], 0, List.replicate l.length false)) ?h08 ?hn8 ?rd8; case hn8 => (intro s; first | rfl | (rcases s with ⟨_, _⟩; rfl) | (rcases s with ⟨_, _, _⟩; rfl) | (rcases s with ⟨_, _, _, _⟩; rfl) | (rcases s with ⟨_, _, _, _, _⟩; rfl)))
        · simp (disch := omega) only [go_sem, Nat.reduceEqDiff, ↓reduceIte, reduceCtorEq, Nat.reduceAdd, Nat.reduceMul, Int.reduceToNat, List.reduceReplicate, Nat.reduceLeDiff, Nat.reduceLT, Int.reduceLT, Int.reduceLE, Int.reduceEq]
          exact ⟨mvI_0 l, by simp, rfl⟩
        rintro ⟨n, out, s, nx, g⟩ ⟨hM, hn, ho, hR⟩
        replace hM : MvI l s nx g := hM
        replace hn : 2 * (l.length - nx) + s.length = n := hn
        replace ho : out.length + n = 2 * l.length := ho
        replace hR : movesR l = mvF l n out s nx g := hR
        have hnx := hM.le
        have hgl := hM.len
        by_cases hgo : nx < l.length ∨ 1 < s.length
        · obtain ⟨m, rfl⟩ : ∃ m, n = m + 1 := ⟨n - 1, by omega⟩
          rw [mvF, if_pos hgo] at hR
          have fin : ∀ (c : Int) (s' : List Int) (nx' : Nat) (g' : List Bool) (z : Int), MvI l s' nx' g' → 2 * (l.length - nx') + s'.length = m → movesR l = mvF l m (out ++ [c]) s' nx' g' → z = nx' → ∃ q : Nat × List Int × List Int × Nat × List Bool,
              (q.1 < m + 1 ∧ MvI l q.2.2.1 q.2.2.2.1 q.2.2.2.2 ∧ 2 * (l.length - q.2.2.2.1) + q.2.2.1.length = q.1 ∧ q.2.1.length + q.1 = 2 * l.length ∧ movesR l = mvF l q.1 q.2.1 q.2.2.1 q.2.2.2.1 q.2.2.2.2) ∧
              ((out.length + 1 = q.2.1.length ∧ out.length + 1 = q.2.1.length) ∧ (s'.length = q.2.2.1.length ∧ cellsL s' = cellsL q.2.2.1) ∧ z = q.2.2.2.1) ∧ cellsL g' = cellsL q.2.2.2.2 ∧ cellsL (out ++ [c]) = cellsL q.2.1 := fun c s' nx' g' z h1 h2 h3 h4 =>
            ⟨(m, out ++ [c], s', nx', g'), ⟨Nat.lt_succ_self _, h1, h2, by show (out ++ [c]).length + m = _; rw [List.length_append, List.length_singleton]; omega, h3⟩, ⟨⟨by simp, by simp⟩, ⟨rfl, rfl⟩, h4⟩, rfl, rfl⟩
          by_cases hA : 1 < s.length ∧ (nth l (nth s (s.length - 2)).toNat).2.1 = nth s (s.length - 1) ∧ freeB l g (nth s (s.length - 2)) = true
          · have e0 : mvS l s nx g = some (1, s.take (s.length - 2) ++ [nth s (s.length - 1)], nx, putAt g (nth s (s.length - 2)).toNat true) := by rw [mvS, if_pos hA]
            rw [e0] at hR
            dsimp only at hR
            obtain ⟨a1, a2, a3⟩ := hA
            have e1 : ((s.length : Int) - 2) = ((s.length - 2 : Nat) : Int) := by omega
            have e2 : ((s.length : Int) - 1) = ((s.length - 1 : Nat) : Int) := by omega
            have st1 := hM.st (s.length - 1) (by omega)
            have st2 := hM.st (s.length - 2) (by omega)
            have hN := mvI_left hM a1
            have c4 := isFree_ok l g (nth s (s.length - 2)) v1 hgl
            rw [a3] at c4
            have htl : (s.take (s.length - 2)).length = s.length - 2 := by rw [List.length_take]; omega
            have hpl := putAt_len (l := g) (i := (nth s (s.length - 2)).toNat) (by omega) true
            repeat' (first | with_reducible refine inw ?_ | simp (disch := omega) only [go_sem, Nat.reduceEqDiff, ↓reduceIte, reduceCtorEq, Nat.reduceAdd, Nat.reduceMul, Int.reduceToNat, List.reduceReplicate, Nat.reduceLeDiff, Nat.reduceLT, Int.reduceLT, Int.reduceLE, Int.reduceEq, e1, e2, a2, put_fold1, src_one, zc_zero, Nat.sub_zero, htl] | (with_reducible apply callD_lend (c4)); (focus simp (disch := omega) only [go_sem, Nat.reduceEqDiff, ↓reduceIte, reduceCtorEq, Nat.reduceAdd, Nat.reduceMul, Int.reduceToNat, List.reduceReplicate, Nat.reduceLeDiff, Nat.reduceLT, Int.reduceLT, Int.reduceLE, Int.reduceEq, e1, e2, a2, put_fold1, src_one, zc_zero, Nat.sub_zero, htl] <;> rfl); (focus rfl) | with_reducible refine giv_intro fun _h => ?_ | with_reducible refine alt_intro ?_ fun _h => ?_ | with_reducible refine pickD_nil ?_ | (with_reducible refine brc (fun _h => ?_) fun _h => ?_) <;> first | (exfalso; omega) | simp only [decide_eq_false _h] | simp only [(_h : (_ : Bool) = _)] | simp only [decide_eq_true _h] | skip)
            all_goals
              refine viewed_of (View.freezeR 7 3 3 (s.take (s.length - 2) ++ [nth s (s.length - 1)]) (by simp (disch := omega) only [go_sem, Nat.reduceEqDiff, ↓reduceIte, reduceCtorEq, Nat.reduceAdd, Nat.reduceMul, Int.reduceToNat, List.reduceReplicate, Nat.reduceLeDiff, Nat.reduceLT, Int.reduceLT, Int.reduceLE, Int.reduceEq]; simp [htl]) (by simp (disch := omega) only [go_sem, Nat.reduceEqDiff, ↓reduceIte, reduceCtorEq, Nat.reduceAdd, Nat.reduceMul, Int.reduceToNat, List.reduceReplicate, Nat.reduceLeDiff, Nat.reduceLT, Int.reduceLT, Int.reduceLE, Int.reduceEq]) (by simp)) (viewed_done ?_)
              simp (disch := omega) only [go_sem, Nat.reduceEqDiff, ↓reduceIte, reduceCtorEq, Nat.reduceAdd, Nat.reduceMul, Int.reduceToNat, List.reduceReplicate, Nat.reduceLeDiff, Nat.reduceLT, Int.reduceLT, Int.reduceLE, Int.reduceEq, List.set_cons_zero, List.set_cons_succ]
              exact fin _ _ _ _ _ hN (by rw [List.length_append, htl, List.length_singleton]; omega) hR rfl
          · by_cases hB : 1 < s.length ∧ (nth l (nth s (s.length - 1)).toNat).2.1 = nth s (s.length - 2) ∧ freeB l g (nth s (s.length - 1)) = true
            · have e0 : mvS l s nx g = some (2, s.take (s.length - 1), nx, putAt g (nth s (s.length - 1)).toNat true) := by rw [mvS, if_neg hA, if_pos hB]
              rw [e0] at hR
              dsimp only at hR
              obtain ⟨a1, a2, a3⟩ := hB
              have e1 : ((s.length : Int) - 2) = ((s.length - 2 : Nat) : Int) := by omega
              have e2 : ((s.length : Int) - 1) = ((s.length - 1 : Nat) : Int) := by omega
              have st1 := hM.st (s.length - 1) (by omega)
              have st2 := hM.st (s.length - 2) (by omega)
              have hN := mvI_right hM a1
              have c4 := isFree_ok l g (nth s (s.length - 2)) v1 hgl
              have c5 := isFree_ok l g (nth s (s.length - 1)) v1 hgl
              rw [a3] at c5
              have htl : (s.take (s.length - 1)).length = s.length - 1 := by rw [List.length_take]; omega
              have hpl := putAt_len (l := g) (i := (nth s (s.length - 1)).toNat) (by omega) true
              rcases notA hA a1 with ha | ha <;> (try rw [ha] at c4)
              all_goals
                repeat' (first | with_reducible refine inw ?_ | simp (disch := omega) only [go_sem, Nat.reduceEqDiff, ↓reduceIte, reduceCtorEq, Nat.reduceAdd, Nat.reduceMul, Int.reduceToNat, List.reduceReplicate, Nat.reduceLeDiff, Nat.reduceLT, Int.reduceLT, Int.reduceLE, Int.reduceEq, e1, e2, a2, put_fold1, src_one, zc_zero, Nat.sub_zero, htl] | (with_reducible apply callD_lend (c4)); (focus simp (disch := omega) only [go_sem, Nat.reduceEqDiff, ↓reduceIte, reduceCtorEq, Nat.reduceAdd, Nat.reduceMul, Int.reduceToNat, List.reduceReplicate, Nat.reduceLeDiff, Nat.reduceLT, Int.reduceLT, Int.reduceLE, Int.reduceEq, e1, e2, a2, put_fold1, src_one, zc_zero, Nat.sub_zero, htl] <;> rfl); (focus rfl) | (with_reducible apply callD_lend (c5)); (focus simp (disch := omega) only [go_sem, Nat.reduceEqDiff, ↓reduceIte, reduceCtorEq, Nat.reduceAdd, Nat.reduceMul, Int.reduceToNat, List.reduceReplicate, Nat.reduceLeDiff, Nat.reduceLT, Int.reduceLT, Int.reduceLE, Int.reduceEq, e1, e2, a2, put_fold1, src_one, zc_zero, Nat.sub_zero, htl] <;> rfl); (focus rfl) | with_reducible refine giv_intro fun _h => ?_ | with_reducible refine alt_intro ?_ fun _h => ?_ | with_reducible refine pickD_nil ?_ | (with_reducible refine brc (fun _h => ?_) fun _h => ?_) <;> first | (exfalso; omega) | simp only [decide_eq_false _h] | simp only [(_h : (_ : Bool) = _)] | simp only [decide_eq_true _h] | skip)
                all_goals
                  refine viewed_done ?_
                  simp (disch := omega) only [go_sem, Nat.reduceEqDiff, ↓reduceIte, reduceCtorEq, Nat.reduceAdd, Nat.reduceMul, Int.reduceToNat, List.reduceReplicate, Nat.reduceLeDiff, Nat.reduceLT, Int.reduceLT, Int.reduceLE, Int.reduceEq]
                  exact fin _ _ _ _ _ hN (by rw [htl]; omega) hR rfl
            · by_cases hn : nx < l.length
              · have e0 : mvS l s nx g = some (0, s ++ [(nx : Int)], nx + 1, g) := by rw [mvS, if_neg hA, if_neg hB, if_pos hn]
                rw [e0] at hR
                dsimp only at hR
                have hN := mvI_shift hM hn
                by_cases a1 : 1 < s.length
                · have st1 := hM.st (s.length - 1) (by omega)
                  have e1 : ((s.length : Int) - 2) = ((s.length - 2 : Nat) : Int) := by omega
                  have e2 : ((s.length : Int) - 1) = ((s.length - 1 : Nat) : Int) := by omega
                  have st2 := hM.st (s.length - 2) (by omega)
                  have c4 := isFree_ok l g (nth s (s.length - 2)) v1 hgl
                  have c5 := isFree_ok l g (nth s (s.length - 1)) v1 hgl
                  rcases notA hA a1 with ha | ha <;> rcases notA hB a1 with hb | hb <;> (try rw [ha] at c4) <;> (try rw [hb] at c5)
                  all_goals
                    repeat' (first | with_reducible refine inw ?_ | simp (disch := omega) only [go_sem, Nat.reduceEqDiff, ↓reduceIte, reduceCtorEq, Nat.reduceAdd, Nat.reduceMul, Int.reduceToNat, List.reduceReplicate, Nat.reduceLeDiff, Nat.reduceLT, Int.reduceLT, Int.reduceLE, Int.reduceEq, e1, e2, put_fold1, src_one, zc_zero, List.take_length] | (with_reducible apply callD_lend (c4)); (focus simp (disch := omega) only [go_sem, Nat.reduceEqDiff, ↓reduceIte, reduceCtorEq, Nat.reduceAdd, Nat.reduceMul, Int.reduceToNat, List.reduceReplicate, Nat.reduceLeDiff, Nat.reduceLT, Int.reduceLT, Int.reduceLE, Int.reduceEq, e1, e2, put_fold1, src_one, zc_zero, List.take_length] <;> rfl); (focus rfl) | (with_reducible apply callD_lend (c5)); (focus simp (disch := omega) only [go_sem, Nat.reduceEqDiff, ↓reduceIte, reduceCtorEq, Nat.reduceAdd, Nat.reduceMul, Int.reduceToNat, List.reduceReplicate, Nat.reduceLeDiff, Nat.reduceLT, Int.reduceLT, Int.reduceLE, Int.reduceEq, e1, e2, put_fold1, src_one, zc_zero, List.take_length] <;> rfl); (focus rfl) | with_reducible refine giv_intro fun _h => ?_ | with_reducible refine alt_intro ?_ fun _h => ?_ | with_reducible refine pickD_nil ?_ | (with_reducible refine brc (fun _h => ?_) fun _h => ?_) <;> first | (exfalso; omega) | simp only [decide_eq_false _h] | simp only [(_h : (_ : Bool) = _)] | simp only [decide_eq_true _h] | skip)
                    all_goals
                      refine viewed_of (View.freezeR 7 3 3 (s ++ [(nx : Int)]) (by simp (disch := omega) only [go_sem, Nat.reduceEqDiff, ↓reduceIte, reduceCtorEq, Nat.reduceAdd, Nat.reduceMul, Int.reduceToNat, List.reduceReplicate, Nat.reduceLeDiff, Nat.reduceLT, Int.reduceLT, Int.reduceLE, Int.reduceEq]; simp) (by simp (disch := omega) only [go_sem, Nat.reduceEqDiff, ↓reduceIte, reduceCtorEq, Nat.reduceAdd, Nat.reduceMul, Int.reduceToNat, List.reduceReplicate, Nat.reduceLeDiff, Nat.reduceLT, Int.reduceLT, Int.reduceLE, Int.reduceEq]) (by simp)) (viewed_done ?_)
                      simp (disch := omega) only [go_sem, Nat.reduceEqDiff, ↓reduceIte, reduceCtorEq, Nat.reduceAdd, Nat.reduceMul, Int.reduceToNat, List.reduceReplicate, Nat.reduceLeDiff, Nat.reduceLT, Int.reduceLT, Int.reduceLE, Int.reduceEq, List.set_cons_zero, List.set_cons_succ]
                      exact fin _ _ _ _ _ hN (by simp; omega) hR (by omega)
                · repeat' (first | with_reducible refine inw ?_ | simp (disch := omega) only [go_sem, Nat.reduceEqDiff, ↓reduceIte, reduceCtorEq, Nat.reduceAdd, Nat.reduceMul, Int.reduceToNat, List.reduceReplicate, Nat.reduceLeDiff, Nat.reduceLT, Int.reduceLT, Int.reduceLE, Int.reduceEq, put_fold1, src_one, zc_zero, List.take_length] | with_reducible refine giv_intro fun _h => ?_ | with_reducible refine alt_intro ?_ fun _h => ?_ | with_reducible refine pickD_nil ?_ | (with_reducible refine brc (fun _h => ?_) fun _h => ?_) <;> first | (exfalso; omega) | simp only [decide_eq_false _h] | simp only [(_h : (_ : Bool) = _)] | simp only [decide_eq_true _h] | skip)
                  all_goals
                    refine viewed_of (View.freezeR 7 3 3 (s ++ [(nx : Int)]) (by simp (disch := omega) only [go_sem, Nat.reduceEqDiff, ↓reduceIte, reduceCtorEq, Nat.reduceAdd, Nat.reduceMul, Int.reduceToNat, List.reduceReplicate, Nat.reduceLeDiff, Nat.reduceLT, Int.reduceLT, Int.reduceLE, Int.reduceEq]; simp) (by simp (disch := omega) only [go_sem, Nat.reduceEqDiff, ↓reduceIte, reduceCtorEq, Nat.reduceAdd, Nat.reduceMul, Int.reduceToNat, List.reduceReplicate, Nat.reduceLeDiff, Nat.reduceLT, Int.reduceLT, Int.reduceLE, Int.reduceEq]) (by simp)) (viewed_done ?_)
                    simp (disch := omega) only [go_sem, Nat.reduceEqDiff, ↓reduceIte, reduceCtorEq, Nat.reduceAdd, Nat.reduceMul, Int.reduceToNat, List.reduceReplicate, Nat.reduceLeDiff, Nat.reduceLT, Int.reduceLT, Int.reduceLE, Int.reduceEq, List.set_cons_zero, List.set_cons_succ]
                    exact fin _ _ _ _ _ hN (by simp; omega) hR (by omega)
              · have e0 : mvS l s nx g = none := by rw [mvS, if_neg hA, if_neg hB, if_neg hn]
                rw [e0] at hR
                dsimp only at hR
                rw [hR]
                have a1 : 1 < s.length := by omega
                have e1 : ((s.length : Int) - 2) = ((s.length - 2 : Nat) : Int) := by omega
                have e2 : ((s.length : Int) - 1) = ((s.length - 1 : Nat) : Int) := by omega
                have st1 := hM.st (s.length - 1) (by omega)
                have st2 := hM.st (s.length - 2) (by omega)
                have c4 := isFree_ok l g (nth s (s.length - 2)) v1 hgl
                have c5 := isFree_ok l g (nth s (s.length - 1)) v1 hgl
                rcases notA hA a1 with ha | ha <;> rcases notA hB a1 with hb | hb <;> (try rw [ha] at c4) <;> (try rw [hb] at c5)
                all_goals
                  repeat' (first | with_reducible refine inw ?_ | simp (disch := omega) only [go_sem, Nat.reduceEqDiff, ↓reduceIte, reduceCtorEq, Nat.reduceAdd, Nat.reduceMul, Int.reduceToNat, List.reduceReplicate, Nat.reduceLeDiff, Nat.reduceLT, Int.reduceLT, Int.reduceLE, Int.reduceEq, e1, e2, put_fold1, src_one, zc_zero] | (with_reducible apply callD_lend (c4)); (focus simp (disch := omega) only [go_sem, Nat.reduceEqDiff, ↓reduceIte, reduceCtorEq, Nat.reduceAdd, Nat.reduceMul, Int.reduceToNat, List.reduceReplicate, Nat.reduceLeDiff, Nat.reduceLT, Int.reduceLT, Int.reduceLE, Int.reduceEq, e1, e2, put_fold1, src_one, zc_zero] <;> rfl); (focus rfl) | (with_reducible apply callD_lend (c5)); (focus simp (disch := omega) only [go_sem, Nat.reduceEqDiff, ↓reduceIte, reduceCtorEq, Nat.reduceAdd, Nat.reduceMul, Int.reduceToNat, List.reduceReplicate, Nat.reduceLeDiff, Nat.reduceLT, Int.reduceLT, Int.reduceLE, Int.reduceEq, e1, e2, put_fold1, src_one, zc_zero] <;> rfl); (focus rfl) | with_reducible refine giv_intro fun _h => ?_ | with_reducible refine alt_intro ?_ fun _h => ?_ | with_reducible refine pickD_nil ?_ | (with_reducible refine brc (fun _h => ?_) fun _h => ?_) <;> first | (exfalso; omega) | simp only [decide_eq_false _h] | simp only [(_h : (_ : Bool) = _)] | simp only [decide_eq_true _h] | skip)
                  all_goals rfl
        · have e0 : mvF l n out s nx g = some out := by cases n <;> simp [mvF, hgo]
          rw [hR, e0]
          repeat' (first | with_reducible refine inw ?_ | simp (disch := omega) only [go_sem, Nat.reduceEqDiff, ↓reduceIte, reduceCtorEq, Nat.reduceAdd, Nat.reduceMul, Int.reduceToNat, List.reduceReplicate, Nat.reduceLeDiff, Nat.reduceLT, Int.reduceLT, Int.reduceLE, Int.reduceEq] | with_reducible refine giv_intro fun _h => ?_ | with_reducible refine alt_intro ?_ fun _h => ?_ | with_reducible refine pickD_nil ?_ | (with_reducible refine brc (fun _h => ?_) fun _h => ?_) <;> first | (exfalso; omega) | simp only [decide_eq_false _h] | simp only [(_h : (_ : Bool) = _)] | simp only [decide_eq_true _h] | skip)
      · have hf2 : flatB l = false := by simpa using hf
        rw [hw] at c2
        rw [hf2] at c3
        rw [hf2, Bool.and_false, if_neg (by simp)]
        (refine fn_look s34_ok (by simp) (by intro k; simp only [go_sem, Nat.reduceEqDiff, ↓reduceIte, reduceCtorEq, Nat.reduceAdd, Nat.reduceMul, Int.reduceToNat, List.reduceReplicate, Nat.reduceLeDiff, Nat.reduceLT, Int.reduceLT, Int.reduceLE, Int.reduceEq]) fun S hS => cwp_sound _ _ _ _ ?_; simp (disch := omega) only [s34, go_sem, Nat.reduceEqDiff, ↓reduceIte, reduceCtorEq, Nat.reduceAdd, Nat.reduceMul, Int.reduceToNat, List.reduceReplicate, Nat.reduceLeDiff, Nat.reduceLT, Int.reduceLT, Int.reduceLE, Int.reduceEq])
        repeat' (first | with_reducible refine inw ?_ | simp (disch := omega) only [go_sem, Nat.reduceEqDiff, ↓reduceIte, reduceCtorEq, Nat.reduceAdd, Nat.reduceMul, Int.reduceToNat, List.reduceReplicate, Nat.reduceLeDiff, Nat.reduceLT, Int.reduceLT, Int.reduceLE, Int.reduceEq] | (with_reducible apply call (c1)); (focus simp (disch := omega) only [go_sem, Nat.reduceEqDiff, ↓reduceIte, reduceCtorEq, Nat.reduceAdd, Nat.reduceMul, Int.reduceToNat, List.reduceReplicate, Nat.reduceLeDiff, Nat.reduceLT, Int.reduceLT, Int.reduceLE, Int.reduceEq] <;> rfl) | (with_reducible apply call (c2)); (focus simp (disch := omega) only [go_sem, Nat.reduceEqDiff, ↓reduceIte, reduceCtorEq, Nat.reduceAdd, Nat.reduceMul, Int.reduceToNat, List.reduceReplicate, Nat.reduceLeDiff, Nat.reduceLT, Int.reduceLT, Int.reduceLE, Int.reduceEq] <;> rfl) | (with_reducible apply call (c3)); (focus simp (disch := omega) only [go_sem, Nat.reduceEqDiff, ↓reduceIte, reduceCtorEq, Nat.reduceAdd, Nat.reduceMul, Int.reduceToNat, List.reduceReplicate, Nat.reduceLeDiff, Nat.reduceLT, Int.reduceLT, Int.reduceLE, Int.reduceEq] <;> rfl) | with_reducible refine giv_intro fun _h => ?_ | with_reducible refine alt_intro ?_ fun _h => ?_ | with_reducible refine pickD_nil ?_ | (with_reducible refine brc (fun _h => ?_) fun _h => ?_) <;> first | (exfalso; omega) | simp only [decide_eq_false _h] | simp only [(_h : (_ : Bool) = _)] | simp only [decide_eq_true _h] | skip)
        all_goals rfl
    · have hw2 : wholeB l = false := by simpa using hw
      rw [hw2] at c2
      rw [hw2, Bool.false_and, if_neg (by simp)]
      (refine fn_look s34_ok (by simp) (by intro k; simp only [go_sem, Nat.reduceEqDiff, ↓reduceIte, reduceCtorEq, Nat.reduceAdd, Nat.reduceMul, Int.reduceToNat, List.reduceReplicate, Nat.reduceLeDiff, Nat.reduceLT, Int.reduceLT, Int.reduceLE, Int.reduceEq]) fun S hS => cwp_sound _ _ _ _ ?_; simp (disch := omega) only [s34, go_sem, Nat.reduceEqDiff, ↓reduceIte, reduceCtorEq, Nat.reduceAdd, Nat.reduceMul, Int.reduceToNat, List.reduceReplicate, Nat.reduceLeDiff, Nat.reduceLT, Int.reduceLT, Int.reduceLE, Int.reduceEq])
      repeat' (first | with_reducible refine inw ?_ | simp (disch := omega) only [go_sem, Nat.reduceEqDiff, ↓reduceIte, reduceCtorEq, Nat.reduceAdd, Nat.reduceMul, Int.reduceToNat, List.reduceReplicate, Nat.reduceLeDiff, Nat.reduceLT, Int.reduceLT, Int.reduceLE, Int.reduceEq] | (with_reducible apply call (c1)); (focus simp (disch := omega) only [go_sem, Nat.reduceEqDiff, ↓reduceIte, reduceCtorEq, Nat.reduceAdd, Nat.reduceMul, Int.reduceToNat, List.reduceReplicate, Nat.reduceLeDiff, Nat.reduceLT, Int.reduceLT, Int.reduceLE, Int.reduceEq] <;> rfl) | (with_reducible apply call (c2)); (focus simp (disch := omega) only [go_sem, Nat.reduceEqDiff, ↓reduceIte, reduceCtorEq, Nat.reduceAdd, Nat.reduceMul, Int.reduceToNat, List.reduceReplicate, Nat.reduceLeDiff, Nat.reduceLT, Int.reduceLT, Int.reduceLE, Int.reduceEq] <;> rfl) | (with_reducible apply call (c3)); (focus simp (disch := omega) only [go_sem, Nat.reduceEqDiff, ↓reduceIte, reduceCtorEq, Nat.reduceAdd, Nat.reduceMul, Int.reduceToNat, List.reduceReplicate, Nat.reduceLeDiff, Nat.reduceLT, Int.reduceLT, Int.reduceLE, Int.reduceEq] <;> rfl) | with_reducible refine giv_intro fun _h => ?_ | with_reducible refine alt_intro ?_ fun _h => ?_ | with_reducible refine pickD_nil ?_ | (with_reducible refine brc (fun _h => ?_) fun _h => ?_) <;> first | (exfalso; omega) | simp only [decide_eq_false _h] | simp only [(_h : (_ : Bool) = _)] | simp only [decide_eq_true _h] | skip)
      all_goals rfl
  · rw [movesT, if_pos h1]
    (refine fn_look s34_ok (by simp) (by intro k; simp only [go_sem, Nat.reduceEqDiff, ↓reduceIte, reduceCtorEq, Nat.reduceAdd, Nat.reduceMul, Int.reduceToNat, List.reduceReplicate, Nat.reduceLeDiff, Nat.reduceLT, Int.reduceLT, Int.reduceLE, Int.reduceEq]) fun S hS => cwp_sound _ _ _ _ ?_; simp (disch := omega) only [s34, go_sem, Nat.reduceEqDiff, ↓reduceIte, reduceCtorEq, Nat.reduceAdd, Nat.reduceMul, Int.reduceToNat, List.reduceReplicate, Nat.reduceLeDiff, Nat.reduceLT, Int.reduceLT, Int.reduceLE, Int.reduceEq])
    repeat' (first | with_reducible refine inw ?_ | simp (disch := omega) only [go_sem, Nat.reduceEqDiff, ↓reduceIte, reduceCtorEq, Nat.reduceAdd, Nat.reduceMul, Int.reduceToNat, List.reduceReplicate, Nat.reduceLeDiff, Nat.reduceLT, Int.reduceLT, Int.reduceLE, Int.reduceEq] | (with_reducible apply call (c1)); (focus simp (disch := omega) only [go_sem, Nat.reduceEqDiff, ↓reduceIte, reduceCtorEq, Nat.reduceAdd, Nat.reduceMul, Int.reduceToNat, List.reduceReplicate, Nat.reduceLeDiff, Nat.reduceLT, Int.reduceLT, Int.reduceLE, Int.reduceEq] <;> rfl) | with_reducible refine giv_intro fun _h => ?_ | with_reducible refine alt_intro ?_ fun _h => ?_ | with_reducible refine pickD_nil ?_ | (with_reducible refine brc (fun _h => ?_) fun _h => ?_) <;> first | (exfalso; omega) | simp only [decide_eq_false _h] | simp only [(_h : (_ : Bool) = _)] | simp only [decide_eq_true _h] | skip)
    all_goals rfl
end Go.Proofs.Ytkedbkdbnmmkhaa.Ev

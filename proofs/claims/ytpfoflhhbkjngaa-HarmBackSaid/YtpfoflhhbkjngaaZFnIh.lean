/- The order of words, by the program; whether there is a word at all of which harmony makes one. -/
import Derived.Test.YtpfoflhhbkjngaaZFnIg
import Derived.Test.YtpfoflhhbkjngaaZEvW
set_option linter.unusedVariables false
set_option linter.unusedSimpArgs false
namespace Go.Proofs.Ytpfoflhhbkjngaa.Ev
open Go Go.Proofs

def cmpI (a b : Int) : Int := if a < b then -1 else if b < a then 1 else 0
/-- cmp.isNaN[int]: 1 parameters, 0 captured -/
def s143 : SC := .seq (.reg [o1 2 (.mv (cB false))])
  (.seq (.reg [o1 3 (.mv (.t 0)),
    o1 4 (.mv (.t 0)),
    o1 5 (.bin .neq (.t 3) (.t 4)),
    o1 2 (.mv (.t 5))])
   (.ret))
theorem s143_ok : lookF Try.prog 143 = some (s143, 6, [.tmp 2]) := by kernel_rfl
theorem isNaNI_ok (a : Int) : Fn P 143 [intA a] (boolA false) := by
  (refine fn_look s143_ok (by simp) (by intro k; simp only [go_sem, Nat.reduceEqDiff, ↓reduceIte, reduceCtorEq, Nat.reduceAdd, Nat.reduceMul, Int.reduceToNat, List.reduceReplicate, Nat.reduceLeDiff, Nat.reduceLT, Int.reduceLT, Int.reduceLE, Int.reduceEq]) fun S hS => cwp_sound _ _ _ _ ?_; simp (maxSteps := 900000) (disch := omega) only [s143, go_sem, Nat.reduceEqDiff, ↓reduceIte, reduceCtorEq, Nat.reduceAdd, Nat.reduceMul, Int.reduceToNat, List.reduceReplicate, Nat.reduceLeDiff, Nat.reduceLT, Int.reduceLT, Int.reduceLE, Int.reduceEq])
  repeat' (first | with_reducible refine inw ?_ | simp (maxSteps := 900000) (disch := omega) only [go_sem, Nat.reduceEqDiff, ↓reduceIte, reduceCtorEq, Nat.reduceAdd, Nat.reduceMul, Int.reduceToNat, List.reduceReplicate, Nat.reduceLeDiff, Nat.reduceLT, Int.reduceLT, Int.reduceLE, Int.reduceEq] | with_reducible refine pickB_f ?_ | with_reducible refine giv_intro fun _h => ?_ | with_reducible refine alt_intro ?_ fun _h => ?_ | with_reducible refine pickD_nil ?_ | (with_reducible refine brc (fun _h => ?_) fun _h => ?_) <;> first | (exfalso; omega) | simp only [decide_eq_false _h] | simp only [(_h : (_ : Bool) = _)] | simp only [decide_eq_true _h] | skip)
/-- cmp.Compare[int]: 2 parameters, 0 captured -/
def s122 : SC := .seq (.reg [o1 4 (.mv (cI 0))])
  (.seq (.reg [o1 7 (.mv (.t 0)),
    o1 8 (.call (.f 143) [(.t 7)]),
    o1 5 (.mv (.t 8))])
   (.seq (.reg [o1 9 (.mv (.t 1)),
     o1 10 (.call (.f 143) [(.t 9)]),
     o1 6 (.mv (.t 10))])
    (.seq (.seq (.reg [o1 11 (.mv (.t 5))])
      (.cond (.t 11) (.seq (.seq (.reg [o1 12 (.mv (.t 6))])
         (.cond (.t 12) (.seq (.reg [o1 4 (.mv (cI 0))])
           (.ret)) (.skip)))
        (.seq (.reg [o1 4 (.mv (cI (-1)))])
         (.ret))) (.skip)))
     (.seq (.seq (.reg [o1 13 (.mv (.t 6))])
       (.cond (.t 13) (.seq (.reg [o1 4 (.mv (cI 1))])
         (.ret)) (.skip)))
      (.seq (.seq (.reg [o1 14 (.mv (.t 0)),
         o1 15 (.mv (.t 1)),
         o1 16 (.bin .lss (.t 14) (.t 15))])
        (.cond (.t 16) (.seq (.reg [o1 4 (.mv (cI (-1)))])
          (.ret)) (.skip)))
       (.seq (.seq (.reg [o1 17 (.mv (.t 0)),
          o1 18 (.mv (.t 1)),
          o1 19 (.bin .gtr (.t 17) (.t 18))])
         (.cond (.t 19) (.seq (.reg [o1 4 (.mv (cI 1))])
           (.ret)) (.skip)))
        (.seq (.reg [o1 4 (.mv (cI 0))])
         (.ret))))))))
theorem s122_ok : lookF Try.prog 122 = some (s122, 20, [.tmp 4]) := by kernel_rfl
theorem cmpI_ok (a b : Int) : Fn P 122 [intA a, intA b] (intA (cmpI a b)) := by
  have c1 := isNaNI_ok a
  have c2 := isNaNI_ok b
  (refine fn_look s122_ok (by simp) (by intro k; simp only [go_sem, Nat.reduceEqDiff, ↓reduceIte, reduceCtorEq, Nat.reduceAdd, Nat.reduceMul, Int.reduceToNat, List.reduceReplicate, Nat.reduceLeDiff, Nat.reduceLT, Int.reduceLT, Int.reduceLE, Int.reduceEq]) fun S hS => cwp_sound _ _ _ _ ?_; simp (maxSteps := 900000) (disch := omega) only [s122, go_sem, Nat.reduceEqDiff, ↓reduceIte, reduceCtorEq, Nat.reduceAdd, Nat.reduceMul, Int.reduceToNat, List.reduceReplicate, Nat.reduceLeDiff, Nat.reduceLT, Int.reduceLT, Int.reduceLE, Int.reduceEq])
  repeat' (first | with_reducible refine inw ?_ | simp (maxSteps := 900000) (disch := omega) only [go_sem, Nat.reduceEqDiff, ↓reduceIte, reduceCtorEq, Nat.reduceAdd, Nat.reduceMul, Int.reduceToNat, List.reduceReplicate, Nat.reduceLeDiff, Nat.reduceLT, Int.reduceLT, Int.reduceLE, Int.reduceEq] | (with_reducible apply call (c1)); (focus simp (maxSteps := 900000) (disch := omega) only [go_sem, Nat.reduceEqDiff, ↓reduceIte, reduceCtorEq, Nat.reduceAdd, Nat.reduceMul, Int.reduceToNat, List.reduceReplicate, Nat.reduceLeDiff, Nat.reduceLT, Int.reduceLT, Int.reduceLE, Int.reduceEq] <;> rfl) | (with_reducible apply call (c2)); (focus simp (maxSteps := 900000) (disch := omega) only [go_sem, Nat.reduceEqDiff, ↓reduceIte, reduceCtorEq, Nat.reduceAdd, Nat.reduceMul, Int.reduceToNat, List.reduceReplicate, Nat.reduceLeDiff, Nat.reduceLT, Int.reduceLT, Int.reduceLE, Int.reduceEq] <;> rfl) | with_reducible refine pickB_f ?_ | with_reducible refine giv_intro fun _h => ?_ | with_reducible refine alt_intro ?_ fun _h => ?_ | with_reducible refine pickD_nil ?_ | (with_reducible refine brc (fun _h => ?_) fun _h => ?_) <;> first | (exfalso; omega) | simp only [decide_eq_false _h] | simp only [(_h : (_ : Bool) = _)] | simp only [decide_eq_true _h] | skip)
  all_goals (unfold cmpI; repeat' split)
  all_goals omega
/-- cmp.isNaN[string]: 1 parameters, 0 captured -/
def s164 : SC := .seq (.reg [o1 2 (.mv (cB false))])
  (.seq (.reg [o1 3 (.mv (.t 0)),
    o1 4 (.mv (.t 0)),
    o1 5 (.bin .neq (.t 3) (.t 4)),
    o1 2 (.mv (.t 5))])
   (.ret))
theorem s164_ok : lookF Try.prog 164 = some (s164, 6, [.tmp 2]) := by kernel_rfl
theorem isNaNS_ok (a : Str) : Fn P 164 [strA a] (boolA false) := by
  (refine fn_look s164_ok (by simp) (by intro k; simp only [go_sem, Nat.reduceEqDiff, ↓reduceIte, reduceCtorEq, Nat.reduceAdd, Nat.reduceMul, Int.reduceToNat, List.reduceReplicate, Nat.reduceLeDiff, Nat.reduceLT, Int.reduceLT, Int.reduceLE, Int.reduceEq]) fun S hS => cwp_sound _ _ _ _ ?_; simp (maxSteps := 900000) (disch := omega) only [s164, go_sem, Nat.reduceEqDiff, ↓reduceIte, reduceCtorEq, Nat.reduceAdd, Nat.reduceMul, Int.reduceToNat, List.reduceReplicate, Nat.reduceLeDiff, Nat.reduceLT, Int.reduceLT, Int.reduceLE, Int.reduceEq])
  repeat' (first | with_reducible refine inw ?_ | simp (maxSteps := 900000) (disch := omega) only [go_sem, Nat.reduceEqDiff, ↓reduceIte, reduceCtorEq, Nat.reduceAdd, Nat.reduceMul, Int.reduceToNat, List.reduceReplicate, Nat.reduceLeDiff, Nat.reduceLT, Int.reduceLT, Int.reduceLE, Int.reduceEq] | with_reducible refine pickB_f ?_ | with_reducible refine giv_intro fun _h => ?_ | with_reducible refine alt_intro ?_ fun _h => ?_ | with_reducible refine pickD_nil ?_ | (with_reducible refine brc (fun _h => ?_) fun _h => ?_) <;> first | (exfalso; omega) | simp only [decide_eq_false _h] | simp only [(_h : (_ : Bool) = _)] | simp only [decide_eq_true _h] | skip)
/-- cmp.Compare[string]: 2 parameters, 0 captured -/
def s144 : SC := .seq (.reg [o1 4 (.mv (cI 0))])
  (.seq (.reg [o1 7 (.mv (.t 0)),
    o1 8 (.call (.f 164) [(.t 7)]),
    o1 5 (.mv (.t 8))])
   (.seq (.reg [o1 9 (.mv (.t 1)),
     o1 10 (.call (.f 164) [(.t 9)]),
     o1 6 (.mv (.t 10))])
    (.seq (.seq (.reg [o1 11 (.mv (.t 5))])
      (.cond (.t 11) (.seq (.seq (.reg [o1 12 (.mv (.t 6))])
         (.cond (.t 12) (.seq (.reg [o1 4 (.mv (cI 0))])
           (.ret)) (.skip)))
        (.seq (.reg [o1 4 (.mv (cI (-1)))])
         (.ret))) (.skip)))
     (.seq (.seq (.reg [o1 13 (.mv (.t 6))])
       (.cond (.t 13) (.seq (.reg [o1 4 (.mv (cI 1))])
         (.ret)) (.skip)))
      (.seq (.seq (.reg [o1 14 (.mv (.t 0)),
         o1 15 (.mv (.t 1)),
         o1 16 (.bin .lss (.t 14) (.t 15))])
        (.cond (.t 16) (.seq (.reg [o1 4 (.mv (cI (-1)))])
          (.ret)) (.skip)))
       (.seq (.seq (.reg [o1 17 (.mv (.t 0)),
          o1 18 (.mv (.t 1)),
          o1 19 (.bin .gtr (.t 17) (.t 18))])
         (.cond (.t 19) (.seq (.reg [o1 4 (.mv (cI 1))])
           (.ret)) (.skip)))
        (.seq (.reg [o1 4 (.mv (cI 0))])
         (.ret))))))))
theorem s144_ok : lookF Try.prog 144 = some (s144, 20, [.tmp 4]) := by kernel_rfl
theorem cmpS_ok (a b : Str) : Fn P 144 [strA a, strA b] (intA (ordT a b)) := by
  have c1 := isNaNS_ok a
  have c2 := isNaNS_ok b
  (refine fn_look s144_ok (by simp) (by intro k; simp only [go_sem, Nat.reduceEqDiff, ↓reduceIte, reduceCtorEq, Nat.reduceAdd, Nat.reduceMul, Int.reduceToNat, List.reduceReplicate, Nat.reduceLeDiff, Nat.reduceLT, Int.reduceLT, Int.reduceLE, Int.reduceEq]) fun S hS => cwp_sound _ _ _ _ ?_; simp (maxSteps := 900000) (disch := omega) only [s144, go_sem, Nat.reduceEqDiff, ↓reduceIte, reduceCtorEq, Nat.reduceAdd, Nat.reduceMul, Int.reduceToNat, List.reduceReplicate, Nat.reduceLeDiff, Nat.reduceLT, Int.reduceLT, Int.reduceLE, Int.reduceEq])
  repeat' (first | with_reducible refine inw ?_ | simp (maxSteps := 900000) (disch := omega) only [go_sem, Nat.reduceEqDiff, ↓reduceIte, reduceCtorEq, Nat.reduceAdd, Nat.reduceMul, Int.reduceToNat, List.reduceReplicate, Nat.reduceLeDiff, Nat.reduceLT, Int.reduceLT, Int.reduceLE, Int.reduceEq] | (with_reducible apply call (c1)); (focus simp (maxSteps := 900000) (disch := omega) only [go_sem, Nat.reduceEqDiff, ↓reduceIte, reduceCtorEq, Nat.reduceAdd, Nat.reduceMul, Int.reduceToNat, List.reduceReplicate, Nat.reduceLeDiff, Nat.reduceLT, Int.reduceLT, Int.reduceLE, Int.reduceEq] <;> rfl) | (with_reducible apply call (c2)); (focus simp (maxSteps := 900000) (disch := omega) only [go_sem, Nat.reduceEqDiff, ↓reduceIte, reduceCtorEq, Nat.reduceAdd, Nat.reduceMul, Int.reduceToNat, List.reduceReplicate, Nat.reduceLeDiff, Nat.reduceLT, Int.reduceLT, Int.reduceLE, Int.reduceEq] <;> rfl) | with_reducible refine pickB_f ?_ | with_reducible refine giv_intro fun _h => ?_ | with_reducible refine alt_intro ?_ fun _h => ?_ | with_reducible refine pickD_nil ?_ | (with_reducible refine brc (fun _h => ?_) fun _h => ?_) <;> first | (exfalso; omega) | simp only [decide_eq_false _h] | simp only [(_h : (_ : Bool) = _)] | simp only [decide_eq_true _h] | skip)
  · rw [ordT, if_pos _h]
  · rename_i h0
    rw [ordT, if_neg (by rw [h0]; decide), if_pos _h]
  · rename_i h0
    rw [ordT, if_neg (by rw [h0]; decide), if_neg (by rw [_h]; decide)]
/-- slices.Compare[[]string,string]: 2 parameters, 0 captured -/
def s123 : SC := .seq (.reg [o1 4 (.mv (cI 0))])
  (.seq (.seq (.reg [o1 9 (.mv (.t 0)),
     o1 10 (.lenL (.t 9)),
     o1 11 (.mv (cI 0))])
    (.block 0 (.loop (.seq (.reg [o1 12 (.bin .lss (.t 11) (.t 10))])
       (.seq (.cond (.t 12) (.skip) (.exit 0))
        (.seq (.block 1 (.seq (.reg [o1 13 (.mv (.t 11)),
            o1 14 (.iaddr 1 (.t 9) (.t 11)),
            o1 15 (.load none (.t 14)),
            o1 5 (.mv (.t 13)),
            o1 6 (.mv (.t 15))])
           (.seq (.seq (.reg [o1 16 (.mv (.t 5)),
              o1 17 (.mv (.t 1)),
              o1 18 (.lenL (.t 17)),
              o1 19 (.bin .geq (.t 16) (.t 18))])
             (.cond (.t 19) (.seq (.reg [o1 4 (.mv (cI 1))])
               (.ret)) (.skip)))
            (.seq (.reg [o1 20 (.mv (.t 1)),
              o1 21 (.mv (.t 5)),
              o1 22 (.iaddr 1 (.t 20) (.t 21)),
              o1 23 (.load none (.t 22)),
              o1 7 (.mv (.t 23))])
             (.seq (.reg [o1 24 (.mv (.t 6)),
               o1 25 (.mv (.t 7)),
               o1 26 (.call (.f 144) [(.t 24), (.t 25)]),
               o1 8 (.mv (.t 26))])
              (.seq (.reg [o1 27 (.mv (.t 8)),
                o1 28 (.bin .neq (.t 27) (cI 0))])
               (.cond (.t 28) (.seq (.reg [o1 29 (.mv (.t 8)),
                  o1 4 (.mv (.t 29))])
                 (.ret)) (.skip))))))))
         (.reg [o1 30 (.bin .add (.t 11) (cI 1)),
          o1 11 (.mv (.t 30))])))))))
   (.seq (.seq (.reg [o1 31 (.mv (.t 0)),
      o1 32 (.lenL (.t 31)),
      o1 33 (.mv (.t 1)),
      o1 34 (.lenL (.t 33)),
      o1 35 (.bin .lss (.t 32) (.t 34))])
     (.cond (.t 35) (.seq (.reg [o1 4 (.mv (cI (-1)))])
       (.ret)) (.skip)))
    (.seq (.reg [o1 4 (.mv (cI 0))])
     (.ret))))
theorem s123_ok : lookF Try.prog 123 = some (s123, 36, [.tmp 4]) := by kernel_rfl
theorem slCompare_ok (a b : List Str) (ha : a.length ≤ 8796093022208) (hb : b.length ≤ 8796093022208) : Fn P 123 [sl a, sl b] (intA (orderL a b)) := by
  (refine fn_look s123_ok (by simp) (by intro k; simp only [go_sem, Nat.reduceEqDiff, ↓reduceIte, reduceCtorEq, Nat.reduceAdd, Nat.reduceMul, Int.reduceToNat, List.reduceReplicate, Nat.reduceLeDiff, Nat.reduceLT, Int.reduceLT, Int.reduceLE, Int.reduceEq]) fun S hS => cwp_sound _ _ _ _ ?_; simp (maxSteps := 900000) (disch := omega) only [s123, go_sem, Nat.reduceEqDiff, ↓reduceIte, reduceCtorEq, Nat.reduceAdd, Nat.reduceMul, Int.reduceToNat, List.reduceReplicate, Nat.reduceLeDiff, Nat.reduceLT, Int.reduceLT, Int.reduceLE, Int.reduceEq])
  repeat' (first | with_reducible refine inw ?_ | simp (maxSteps := 900000) (disch := omega) only [go_sem, Nat.reduceEqDiff, ↓reduceIte, reduceCtorEq, Nat.reduceAdd, Nat.reduceMul, Int.reduceToNat, List.reduceReplicate, Nat.reduceLeDiff, Nat.reduceLT, Int.reduceLT, Int.reduceLE, Int.reduceEq] | with_reducible refine pickB_f ?_ | with_reducible refine giv_intro fun _h => ?_ | with_reducible refine alt_intro ?_ fun _h => ?_ | with_reducible refine pickD_nil ?_ | (with_reducible refine brc (fun _h => ?_) fun _h => ?_) <;> first | (exfalso; omega) | simp only [decide_eq_false _h] | simp only [(_h : (_ : Bool) = _)] | simp only [decide_eq_true _h] | skip)
  (refine loopC hS [0, 1, 9, 10] (by simp only [go_sem, Nat.reduceEqDiff, ↓reduceIte, reduceCtorEq, Nat.reduceAdd, Nat.reduceMul, Int.reduceToNat, List.reduceReplicate, Nat.reduceLeDiff, Nat.reduceLT, Int.reduceLT, Int.reduceLE, Int.reduceEq]; try rfl) (fun (i : Nat) => [(11, intA i)]) (fun (i : Nat) => []) (fun (i : Nat) => i ≤ a.length ∧ i ≤ b.length ∧ orderL a b = orderL (a.drop i) (b.drop i)) (fun (i : Nat) => a.length - i) (0) ?_ (by intro s; first | (simp only [List.length_cons, List.length_nil]; done) | rfl | (rcases s with ⟨_, _⟩; rfl) | (rcases s with ⟨_, _, _⟩; rfl) | (rcases s with ⟨_, _, _, _⟩; rfl) | (rcases s with ⟨_, _, _, _, _⟩; rfl)) ?_)
  · simp (maxSteps := 900000) (disch := omega) only [go_sem, Nat.reduceEqDiff, ↓reduceIte, reduceCtorEq, Nat.reduceAdd, Nat.reduceMul, Int.reduceToNat, List.reduceReplicate, Nat.reduceLeDiff, Nat.reduceLT, Int.reduceLT, Int.reduceLE, Int.reduceEq]; exact ⟨Nat.zero_le _, Nat.zero_le _⟩
  · rintro i ⟨h1, h2, h3⟩
    replace h1 : i ≤ a.length := h1
    replace h2 : i ≤ b.length := h2
    replace h3 : orderL a b = orderL (a.drop i) (b.drop i) := h3
    by_cases hi : i < a.length
    · rw [nth_drop hi] at h3
      by_cases hj : i < b.length
      · rw [nth_drop hj, orderL_cons] at h3
        have c1 := cmpS_ok (nth a i) (nth b i)
        repeat' (first | with_reducible refine inw ?_ | simp (maxSteps := 900000) (disch := omega) only [go_sem, Nat.reduceEqDiff, ↓reduceIte, reduceCtorEq, Nat.reduceAdd, Nat.reduceMul, Int.reduceToNat, List.reduceReplicate, Nat.reduceLeDiff, Nat.reduceLT, Int.reduceLT, Int.reduceLE, Int.reduceEq] | (with_reducible apply call (c1)); (focus simp (maxSteps := 900000) (disch := omega) only [go_sem, Nat.reduceEqDiff, ↓reduceIte, reduceCtorEq, Nat.reduceAdd, Nat.reduceMul, Int.reduceToNat, List.reduceReplicate, Nat.reduceLeDiff, Nat.reduceLT, Int.reduceLT, Int.reduceLE, Int.reduceEq] <;> rfl) | with_reducible refine pickB_f ?_ | with_reducible refine giv_intro fun _h => ?_ | with_reducible refine alt_intro ?_ fun _h => ?_ | with_reducible refine pickD_nil ?_ | (with_reducible refine brc (fun _h => ?_) fun _h => ?_) <;> first | (exfalso; omega) | simp only [decide_eq_false _h] | simp only [(_h : (_ : Bool) = _)] | simp only [decide_eq_true _h] | skip)
        · rw [h3, if_pos _h]
        · rw [if_neg (by omega)] at h3
          exact ⟨i + 1, ⟨by omega, by omega, by omega, h3⟩, rfl⟩
      · rw [List.drop_of_length_le (i := i) (by omega), orderL] at h3
        repeat' (first | with_reducible refine inw ?_ | simp (maxSteps := 900000) (disch := omega) only [go_sem, Nat.reduceEqDiff, ↓reduceIte, reduceCtorEq, Nat.reduceAdd, Nat.reduceMul, Int.reduceToNat, List.reduceReplicate, Nat.reduceLeDiff, Nat.reduceLT, Int.reduceLT, Int.reduceLE, Int.reduceEq] | with_reducible refine pickB_f ?_ | with_reducible refine giv_intro fun _h => ?_ | with_reducible refine alt_intro ?_ fun _h => ?_ | with_reducible refine pickD_nil ?_ | (with_reducible refine brc (fun _h => ?_) fun _h => ?_) <;> first | (exfalso; omega) | simp only [decide_eq_false _h] | simp only [(_h : (_ : Bool) = _)] | simp only [decide_eq_true _h] | skip)
        exact h3.symm
    · rw [show a.drop i = [] from List.drop_of_length_le (by omega)] at h3
      repeat' (first | with_reducible refine inw ?_ | simp (maxSteps := 900000) (disch := omega) only [go_sem, Nat.reduceEqDiff, ↓reduceIte, reduceCtorEq, Nat.reduceAdd, Nat.reduceMul, Int.reduceToNat, List.reduceReplicate, Nat.reduceLeDiff, Nat.reduceLT, Int.reduceLT, Int.reduceLE, Int.reduceEq] | with_reducible refine pickB_f ?_ | with_reducible refine giv_intro fun _h => ?_ | with_reducible refine alt_intro ?_ fun _h => ?_ | with_reducible refine pickD_nil ?_ | (with_reducible refine brc (fun _h => ?_) fun _h => ?_) <;> first | (exfalso; omega) | simp only [decide_eq_false _h] | simp only [(_h : (_ : Bool) = _)] | simp only [decide_eq_true _h] | skip)
      · rw [h3, nth_drop (show i < b.length by omega)]; rfl
      · rw [h3, List.drop_of_length_le (show b.length ≤ i by omega)]; rfl
/-- ablaut/syms.Compare: 2 parameters, 0 captured -/
def s90 : SC := .seq (.reg [o1 4 (.mv (cI 0))])
  (.seq (.seq (.reg [o1 6 (.mv (.t 0)),
     o1 7 (.lenL (.t 6)),
     o1 8 (.mv (.t 1)),
     o1 9 (.lenL (.t 8)),
     o1 10 (.call (.f 122) [(.t 7), (.t 9)]),
     o1 5 (.mv (.t 10))])
    (.seq (.reg [o1 11 (.mv (.t 5)),
      o1 12 (.bin .neq (.t 11) (cI 0))])
     (.cond (.t 12) (.seq (.reg [o1 13 (.mv (.t 5)),
        o1 4 (.mv (.t 13))])
       (.ret)) (.skip))))
   (.seq (.reg [o1 14 (.mv (.t 0)),
     o1 15 (.mv (.t 1)),
     o1 16 (.call (.f 123) [(.t 14), (.t 15)]),
     o1 4 (.mv (.t 16))])
    (.ret)))
theorem s90_ok : lookF Try.prog 90 = some (s90, 17, [.tmp 4]) := by kernel_rfl
theorem sCompare_ok (a b : List Str) (ha : a.length ≤ 8796093022208) (hb : b.length ≤ 8796093022208) : Fn P 90 [sl a, sl b] (intA (compL a b)) := by
  have c1 := cmpI_ok a.length b.length
  have c2 := slCompare_ok a b ha hb
  (refine fn_look s90_ok (by simp) (by intro k; simp only [go_sem, Nat.reduceEqDiff, ↓reduceIte, reduceCtorEq, Nat.reduceAdd, Nat.reduceMul, Int.reduceToNat, List.reduceReplicate, Nat.reduceLeDiff, Nat.reduceLT, Int.reduceLT, Int.reduceLE, Int.reduceEq]) fun S hS => cwp_sound _ _ _ _ ?_; simp (maxSteps := 900000) (disch := omega) only [s90, go_sem, Nat.reduceEqDiff, ↓reduceIte, reduceCtorEq, Nat.reduceAdd, Nat.reduceMul, Int.reduceToNat, List.reduceReplicate, Nat.reduceLeDiff, Nat.reduceLT, Int.reduceLT, Int.reduceLE, Int.reduceEq])
  repeat' (first | with_reducible refine inw ?_ | simp (maxSteps := 900000) (disch := omega) only [go_sem, Nat.reduceEqDiff, ↓reduceIte, reduceCtorEq, Nat.reduceAdd, Nat.reduceMul, Int.reduceToNat, List.reduceReplicate, Nat.reduceLeDiff, Nat.reduceLT, Int.reduceLT, Int.reduceLE, Int.reduceEq] | (with_reducible apply call (c1)); (focus simp (maxSteps := 900000) (disch := omega) only [go_sem, Nat.reduceEqDiff, ↓reduceIte, reduceCtorEq, Nat.reduceAdd, Nat.reduceMul, Int.reduceToNat, List.reduceReplicate, Nat.reduceLeDiff, Nat.reduceLT, Int.reduceLT, Int.reduceLE, Int.reduceEq] <;> rfl) | (with_reducible apply call (c2)); (focus simp (maxSteps := 900000) (disch := omega) only [go_sem, Nat.reduceEqDiff, ↓reduceIte, reduceCtorEq, Nat.reduceAdd, Nat.reduceMul, Int.reduceToNat, List.reduceReplicate, Nat.reduceLeDiff, Nat.reduceLT, Int.reduceLT, Int.reduceLE, Int.reduceEq] <;> rfl) | with_reducible refine pickB_f ?_ | with_reducible refine giv_intro fun _h => ?_ | with_reducible refine alt_intro ?_ fun _h => ?_ | with_reducible refine pickD_nil ?_ | (with_reducible refine brc (fun _h => ?_) fun _h => ?_) <;> first | (exfalso; omega) | simp only [decide_eq_false _h] | simp only [(_h : (_ : Bool) = _)] | simp only [decide_eq_true _h] | skip)
  · unfold cmpI compL at *
    repeat' split
    all_goals omega
  · unfold cmpI at *
    rw [compL, if_neg (by split at _h <;> omega), if_neg (by split at _h <;> (try split at _h) <;> omega)]
theorem swo_of {α : Type} {c : α → α → Int} (h : Cmp c) : Sort.SWO (ltOf c) where
  irrefl x := by simp only [ltOf, decide_eq_false_iff_not]; exact (swo_cmp h).1 x
  trans x y z h1 h2 := by simp only [ltOf, decide_eq_true_eq] at *; exact (swo_cmp h).2.1 x y z h1 h2
  ntrans x y z h1 h2 := by simp only [ltOf, decide_eq_false_iff_not] at *; exact (swo_cmp h).2.2 x y z h1 h2
/-- ablaut/harm.reached$1: 1 parameters, 3 captured -/
def s135 : SC := .seq (.reg [o1 5 (.mv (cB false))])
  (.seq (.regD [o1 6 (.load none (.t 1)),
    o1 7 (.load none (.t 2)),
    o1 8 (.mv (.t 0)),
    o1 9 (.call (.f 96) [(.t 6), (.t 7), (.t 8)]),
    o1 10 (.load none (.t 3)),
    o1 11 (.bin .eql (.t 9) (.t 10)),
    o1 5 (.mv (.t 11))])
   (.ret))
theorem s135_ok : lookF Try.prog 135 = some (s135, 12, [.tmp 5]) := by kernel_rfl
theorem reached1_ok (m : List (Str × Sound)) (l : List Arch) (x y : Str) (c : Nat) (hc : c ≤ 1000) (hs : ∀ a ∈ l, ∀ w ∈ a.2, w.length ≤ 1) : Fn P 135 [strA x, .rop [sungA m c], .rop [sl l], .rop [strA y]] (boolA (decide (wrT l x c = y))) := by
  have c1 := becomes_ok m l x c hc hs
  (refine fn_look s135_ok (by simp) (by intro k; simp only [go_sem, Nat.reduceEqDiff, ↓reduceIte, reduceCtorEq, Nat.reduceAdd, Nat.reduceMul, Int.reduceToNat, List.reduceReplicate, Nat.reduceLeDiff, Nat.reduceLT, Int.reduceLT, Int.reduceLE, Int.reduceEq]) fun S hS => cwp_sound _ _ _ _ ?_; simp (maxSteps := 900000) (disch := omega) only [s135, go_sem, Nat.reduceEqDiff, ↓reduceIte, reduceCtorEq, Nat.reduceAdd, Nat.reduceMul, Int.reduceToNat, List.reduceReplicate, Nat.reduceLeDiff, Nat.reduceLT, Int.reduceLT, Int.reduceLE, Int.reduceEq])
  repeat' (first | with_reducible refine inw ?_ | simp (maxSteps := 900000) (disch := omega) only [go_sem, Nat.reduceEqDiff, ↓reduceIte, reduceCtorEq, Nat.reduceAdd, Nat.reduceMul, Int.reduceToNat, List.reduceReplicate, Nat.reduceLeDiff, Nat.reduceLT, Int.reduceLT, Int.reduceLE, Int.reduceEq] | (with_reducible apply call_D (c1)); (focus simp (maxSteps := 900000) (disch := omega) only [go_sem, Nat.reduceEqDiff, ↓reduceIte, reduceCtorEq, Nat.reduceAdd, Nat.reduceMul, Int.reduceToNat, List.reduceReplicate, Nat.reduceLeDiff, Nat.reduceLT, Int.reduceLT, Int.reduceLE, Int.reduceEq] <;> rfl) | with_reducible refine pickB_f ?_ | with_reducible refine giv_intro fun _h => ?_ | with_reducible refine alt_intro ?_ fun _h => ?_ | with_reducible refine pickD_nil ?_ | (with_reducible refine brc (fun _h => ?_) fun _h => ?_) <;> first | (exfalso; omega) | simp only [decide_eq_false _h] | simp only [(_h : (_ : Bool) = _)] | simp only [decide_eq_true _h] | skip)
  all_goals skip
/-- Whether there is a word. -/
def anyT (l : List Arch) (y : Str) (c : Nat) : Bool := (y :: l.map (·.1)).any fun x => decide (wrT l x c = y)
theorem anyT_iff {l : List Arch} {y : Str} {c : Nat} : anyT l y c = true ↔ (chT l y c).length ≠ 0 := by
  rw [anyT, List.any_eq_true]
  constructor
  · rintro ⟨x, _, h⟩
    rw [decide_eq_true_eq] at h
    intro e
    have := mem_chT.2 h
    rw [List.eq_nil_of_length_eq_zero e] at this
    cases this
  · intro h
    obtain ⟨x, hx⟩ := List.exists_mem_of_length_pos (Nat.pos_of_ne_zero h)
    have hx := mem_chT.1 hx
    refine ⟨x, ?_, decide_eq_true hx⟩
    by_cases e : x = y
    · rw [e]; simp
    · obtain ⟨a, ha, e2⟩ := wrT_head (l := l) (x := x) (c := c) (by rw [hx]; exact Ne.symm e)
      rw [← e2]
      exact List.mem_cons_of_mem _ (List.mem_map.2 ⟨a, ha, rfl⟩)
end Go.Proofs.Ytpfoflhhbkjngaa.Ev

/- Strings and lists of strings in order. -/
import Derived.Test.YtedbjmonfbpefaaZFnM
set_option linter.unusedVariables false
set_option linter.unusedSimpArgs false
namespace Go.Proofs.Ytedbjmonfbpefaa.Ev
open Go Go.Proofs

def ordS (a b : Str) : Int := if ltB a b = true then -1 else if ltB b a = true then 1 else 0
/-- cmp.isNaN[string]: 1 parameters, 0 captured -/
def s111 : SC := .seq (.reg [o1 2 (.mv (cB false))])
  (.seq (.reg [o1 3 (.mv (.t 0)),
    o1 4 (.mv (.t 0)),
    o1 5 (.bin .neq (.t 3) (.t 4)),
    o1 2 (.mv (.t 5))])
   (.ret))
theorem s111_ok : lookF Try.prog 111 = some (s111, 6, [.tmp 2]) := by kernel_rfl
theorem isNaNS_ok (a : Str) : Fn P 111 [strA a] (boolA false) := by
  (refine fn_look s111_ok (by simp) (by intro k; simp only [go_sem, Nat.reduceEqDiff, ↓reduceIte, reduceCtorEq, Nat.reduceAdd, Nat.reduceMul, Int.reduceToNat, List.reduceReplicate, Nat.reduceLeDiff, Nat.reduceLT, Int.reduceLT, Int.reduceLE, Int.reduceEq]) fun S hS => cwp_sound _ _ _ _ ?_; simp (maxSteps := 900000) (disch := omega) only [s111, go_sem, Nat.reduceEqDiff, ↓reduceIte, reduceCtorEq, Nat.reduceAdd, Nat.reduceMul, Int.reduceToNat, List.reduceReplicate, Nat.reduceLeDiff, Nat.reduceLT, Int.reduceLT, Int.reduceLE, Int.reduceEq])
  repeat' (first | with_reducible refine inw ?_ | simp (maxSteps := 900000) (disch := omega) only [go_sem, Nat.reduceEqDiff, ↓reduceIte, reduceCtorEq, Nat.reduceAdd, Nat.reduceMul, Int.reduceToNat, List.reduceReplicate, Nat.reduceLeDiff, Nat.reduceLT, Int.reduceLT, Int.reduceLE, Int.reduceEq] | with_reducible refine pickB_f ?_ | with_reducible refine giv_intro fun _h => ?_ | with_reducible refine alt_intro ?_ fun _h => ?_ | with_reducible refine pickD_nil ?_ | (with_reducible refine brc (fun _h => ?_) fun _h => ?_) <;> first | (exfalso; omega) | simp only [decide_eq_false _h] | simp only [(_h : (_ : Bool) = _)] | simp only [decide_eq_true _h] | skip)
/-- cmp.Compare[string]: 2 parameters, 0 captured -/
def s78 : SC := .seq (.reg [o1 4 (.mv (cI 0))])
  (.seq (.reg [o1 7 (.mv (.t 0)),
    o1 8 (.call (.f 111) [(.t 7)]),
    o1 5 (.mv (.t 8))])
   (.seq (.reg [o1 9 (.mv (.t 1)),
     o1 10 (.call (.f 111) [(.t 9)]),
     o1 6 (.mv (.t 10))])
    (.seq (.seq (.reg [o1 11 (.mv (.t 5))])
      (.cond (.t 11) (.seq (.seq (.reg [o1 12 (.mv (.t 6))])
         (.cond (.t 12) (.seq (.reg [o1 4 (.mv (cI 0))])
           (.ret)) (.skip)))
        (.seq (.reg [o1 4 (.mv (cI (-1)))])
         (.ret))) (.skip)))
     (.seq (.seq (.reg [o1 13 (.mv (.t 6))])
       (.cond (.t 13) (.seq (.reg [o1 4 (.mv (cI 1))])
         (.ret)) (.skip)))
      (.seq (.seq (.reg [o1 14 (.mv (.t 0)),
         o1 15 (.mv (.t 1)),
         o1 16 (.bin .lss (.t 14) (.t 15))])
        (.cond (.t 16) (.seq (.reg [o1 4 (.mv (cI (-1)))])
          (.ret)) (.skip)))
       (.seq (.seq (.reg [o1 17 (.mv (.t 0)),
          o1 18 (.mv (.t 1)),
          o1 19 (.bin .gtr (.t 17) (.t 18))])
         (.cond (.t 19) (.seq (.reg [o1 4 (.mv (cI 1))])
           (.ret)) (.skip)))
        (.seq (.reg [o1 4 (.mv (cI 0))])
         (.ret))))))))
theorem s78_ok : lookF Try.prog 78 = some (s78, 20, [.tmp 4]) := by kernel_rfl
theorem cmpS_ok (a b : Str) : Fn P 78 [strA a, strA b] (intA (ordS a b)) := by
  have c1 := isNaNS_ok a
  have c2 := isNaNS_ok b
  (refine fn_look s78_ok (by simp) (by intro k; simp only [go_sem, Nat.reduceEqDiff, ↓reduceIte, reduceCtorEq, Nat.reduceAdd, Nat.reduceMul, Int.reduceToNat, List.reduceReplicate, Nat.reduceLeDiff, Nat.reduceLT, Int.reduceLT, Int.reduceLE, Int.reduceEq]) fun S hS => cwp_sound _ _ _ _ ?_; simp (maxSteps := 900000) (disch := omega) only [s78, go_sem, Nat.reduceEqDiff, ↓reduceIte, reduceCtorEq, Nat.reduceAdd, Nat.reduceMul, Int.reduceToNat, List.reduceReplicate, Nat.reduceLeDiff, Nat.reduceLT, Int.reduceLT, Int.reduceLE, Int.reduceEq])
  repeat' (first | with_reducible refine inw ?_ | simp (maxSteps := 900000) (disch := omega) only [go_sem, Nat.reduceEqDiff, ↓reduceIte, reduceCtorEq, Nat.reduceAdd, Nat.reduceMul, Int.reduceToNat, List.reduceReplicate, Nat.reduceLeDiff, Nat.reduceLT, Int.reduceLT, Int.reduceLE, Int.reduceEq] | (with_reducible apply call (c1)); (focus simp (maxSteps := 900000) (disch := omega) only [go_sem, Nat.reduceEqDiff, ↓reduceIte, reduceCtorEq, Nat.reduceAdd, Nat.reduceMul, Int.reduceToNat, List.reduceReplicate, Nat.reduceLeDiff, Nat.reduceLT, Int.reduceLT, Int.reduceLE, Int.reduceEq] <;> rfl) | (with_reducible apply call (c2)); (focus simp (maxSteps := 900000) (disch := omega) only [go_sem, Nat.reduceEqDiff, ↓reduceIte, reduceCtorEq, Nat.reduceAdd, Nat.reduceMul, Int.reduceToNat, List.reduceReplicate, Nat.reduceLeDiff, Nat.reduceLT, Int.reduceLT, Int.reduceLE, Int.reduceEq] <;> rfl) | with_reducible refine pickB_f ?_ | with_reducible refine giv_intro fun _h => ?_ | with_reducible refine alt_intro ?_ fun _h => ?_ | with_reducible refine pickD_nil ?_ | (with_reducible refine brc (fun _h => ?_) fun _h => ?_) <;> first | (exfalso; omega) | simp only [decide_eq_false _h] | simp only [(_h : (_ : Bool) = _)] | simp only [decide_eq_true _h] | skip)
  · rw [ordS, if_pos _h]
  · rename_i h0
    rw [ordS, if_neg (by rw [h0]; decide), if_pos _h]
  · rename_i h0
    rw [ordS, if_neg (by rw [h0]; decide), if_neg (by rw [_h]; decide)]
def cmpL : List Str → List Str → Int
  | [], [] => 0
  | [], _ :: _ => -1
  | _ :: _, [] => 1
  | x :: a, y :: b => if ordS x y = 0 then cmpL a b else ordS x y
/-- slices.Compare[[]string,string]: 2 parameters, 0 captured -/
def s88 : SC := .seq (.reg [o1 4 (.mv (cI 0))])
  (.seq (.seq (.reg [o1 9 (.mv (.t 0)),
     o1 10 (.lenL (.t 9)),
     o1 11 (.mv (cI 0))])
    (.block 0 (.loop (.seq (.reg [o1 12 (.bin .lss (.t 11) (.t 10))])
       (.seq (.cond (.t 12) (.skip) (.exit 0))
        (.seq (.block 1 (.seq (.reg [o1 13 (.mv (.t 11)),
            o1 14 (.iaddr 1 (.t 9) (.t 11)),
            o1 15 (.load none (.t 14)),
            o1 5 (.mv (.t 13)),
            o1 6 (.mv (.t 15))])
           (.seq (.seq (.reg [o1 16 (.mv (.t 5)),
              o1 17 (.mv (.t 1)),
              o1 18 (.lenL (.t 17)),
              o1 19 (.bin .geq (.t 16) (.t 18))])
             (.cond (.t 19) (.seq (.reg [o1 4 (.mv (cI 1))])
               (.ret)) (.skip)))
            (.seq (.reg [o1 20 (.mv (.t 1)),
              o1 21 (.mv (.t 5)),
              o1 22 (.iaddr 1 (.t 20) (.t 21)),
              o1 23 (.load none (.t 22)),
              o1 7 (.mv (.t 23))])
             (.seq (.reg [o1 24 (.mv (.t 6)),
               o1 25 (.mv (.t 7)),
               o1 26 (.call (.f 78) [(.t 24), (.t 25)]),
               o1 8 (.mv (.t 26))])
              (.seq (.reg [o1 27 (.mv (.t 8)),
                o1 28 (.bin .neq (.t 27) (cI 0))])
               (.cond (.t 28) (.seq (.reg [o1 29 (.mv (.t 8)),
                  o1 4 (.mv (.t 29))])
                 (.ret)) (.skip))))))))
         (.reg [o1 30 (.bin .add (.t 11) (cI 1)),
          o1 11 (.mv (.t 30))])))))))
   (.seq (.seq (.reg [o1 31 (.mv (.t 0)),
      o1 32 (.lenL (.t 31)),
      o1 33 (.mv (.t 1)),
      o1 34 (.lenL (.t 33)),
      o1 35 (.bin .lss (.t 32) (.t 34))])
     (.cond (.t 35) (.seq (.reg [o1 4 (.mv (cI (-1)))])
       (.ret)) (.skip)))
    (.seq (.reg [o1 4 (.mv (cI 0))])
     (.ret))))
theorem s88_ok : lookF Try.prog 88 = some (s88, 36, [.tmp 4]) := by kernel_rfl
theorem slCompare_ok (a b : List Str) (ha : a.length ≤ 8796093022208) (hb : b.length ≤ 8796093022208) : Fn P 88 [sl a, sl b] (intA (cmpL a b)) := by
  (refine fn_look s88_ok (by simp) (by intro k; simp only [go_sem, Nat.reduceEqDiff, ↓reduceIte, reduceCtorEq, Nat.reduceAdd, Nat.reduceMul, Int.reduceToNat, List.reduceReplicate, Nat.reduceLeDiff, Nat.reduceLT, Int.reduceLT, Int.reduceLE, Int.reduceEq]) fun S hS => cwp_sound _ _ _ _ ?_; simp (maxSteps := 900000) (disch := omega) only [s88, go_sem, Nat.reduceEqDiff, ↓reduceIte, reduceCtorEq, Nat.reduceAdd, Nat.reduceMul, Int.reduceToNat, List.reduceReplicate, Nat.reduceLeDiff, Nat.reduceLT, Int.reduceLT, Int.reduceLE, Int.reduceEq])
  repeat' (first | with_reducible refine inw ?_ | simp (maxSteps := 900000) (disch := omega) only [go_sem, Nat.reduceEqDiff, ↓reduceIte, reduceCtorEq, Nat.reduceAdd, Nat.reduceMul, Int.reduceToNat, List.reduceReplicate, Nat.reduceLeDiff, Nat.reduceLT, Int.reduceLT, Int.reduceLE, Int.reduceEq] | with_reducible refine pickB_f ?_ | with_reducible refine giv_intro fun _h => ?_ | with_reducible refine alt_intro ?_ fun _h => ?_ | with_reducible refine pickD_nil ?_ | (with_reducible refine brc (fun _h => ?_) fun _h => ?_) <;> first | (exfalso; omega) | simp only [decide_eq_false _h] | simp only [(_h : (_ : Bool) = _)] | simp only [decide_eq_true _h] | skip)
  (refine loopC hS [0, 1, 9, 10] (by simp only [go_sem, Nat.reduceEqDiff, ↓reduceIte, reduceCtorEq, Nat.reduceAdd, Nat.reduceMul, Int.reduceToNat, List.reduceReplicate, Nat.reduceLeDiff, Nat.reduceLT, Int.reduceLT, Int.reduceLE, Int.reduceEq]; try rfl) (fun (i : Nat) => [(11, intA i)]) (fun (i : Nat) => []) (fun (i : Nat) => i ≤ a.length ∧ i ≤ b.length ∧ cmpL a b = cmpL (a.drop i) (b.drop i)) (fun (i : Nat) => a.length - i) (0) ?_ (by intro s; first | rfl | (rcases s with ⟨_, _⟩; rfl) | (rcases s with ⟨_, _, _⟩; rfl) | (rcases s with ⟨_, _, _, _⟩; rfl) | (rcases s with ⟨_, _, _, _, _⟩; rfl)) ?_)
  · simp (maxSteps := 900000) (disch := omega) only [go_sem, Nat.reduceEqDiff, ↓reduceIte, reduceCtorEq, Nat.reduceAdd, Nat.reduceMul, Int.reduceToNat, List.reduceReplicate, Nat.reduceLeDiff, Nat.reduceLT, Int.reduceLT, Int.reduceLE, Int.reduceEq]; exact ⟨Nat.zero_le _, Nat.zero_le _⟩
  · rintro i ⟨h1, h2, h3⟩
    replace h1 : i ≤ a.length := h1
    replace h2 : i ≤ b.length := h2
    replace h3 : cmpL a b = cmpL (a.drop i) (b.drop i) := h3
    by_cases hi : i < a.length
    · rw [nth_drop hi] at h3
      by_cases hj : i < b.length
      · rw [nth_drop hj, cmpL] at h3
        have c1 := cmpS_ok (nth a i) (nth b i)
        repeat' (first | with_reducible refine inw ?_ | simp (maxSteps := 900000) (disch := omega) only [go_sem, Nat.reduceEqDiff, ↓reduceIte, reduceCtorEq, Nat.reduceAdd, Nat.reduceMul, Int.reduceToNat, List.reduceReplicate, Nat.reduceLeDiff, Nat.reduceLT, Int.reduceLT, Int.reduceLE, Int.reduceEq] | (with_reducible apply call (c1)); (focus simp (maxSteps := 900000) (disch := omega) only [go_sem, Nat.reduceEqDiff, ↓reduceIte, reduceCtorEq, Nat.reduceAdd, Nat.reduceMul, Int.reduceToNat, List.reduceReplicate, Nat.reduceLeDiff, Nat.reduceLT, Int.reduceLT, Int.reduceLE, Int.reduceEq] <;> rfl) | with_reducible refine pickB_f ?_ | with_reducible refine giv_intro fun _h => ?_ | with_reducible refine alt_intro ?_ fun _h => ?_ | with_reducible refine pickD_nil ?_ | (with_reducible refine brc (fun _h => ?_) fun _h => ?_) <;> first | (exfalso; omega) | simp only [decide_eq_false _h] | simp only [(_h : (_ : Bool) = _)] | simp only [decide_eq_true _h] | skip)
        · rw [h3, if_neg _h]
        · rw [if_pos _h] at h3
          exact ⟨i + 1, ⟨by omega, by omega, by omega, h3⟩, rfl⟩
      · rw [List.drop_of_length_le (i := i) (by omega), cmpL] at h3
        repeat' (first | with_reducible refine inw ?_ | simp (maxSteps := 900000) (disch := omega) only [go_sem, Nat.reduceEqDiff, ↓reduceIte, reduceCtorEq, Nat.reduceAdd, Nat.reduceMul, Int.reduceToNat, List.reduceReplicate, Nat.reduceLeDiff, Nat.reduceLT, Int.reduceLT, Int.reduceLE, Int.reduceEq] | with_reducible refine pickB_f ?_ | with_reducible refine giv_intro fun _h => ?_ | with_reducible refine alt_intro ?_ fun _h => ?_ | with_reducible refine pickD_nil ?_ | (with_reducible refine brc (fun _h => ?_) fun _h => ?_) <;> first | (exfalso; omega) | simp only [decide_eq_false _h] | simp only [(_h : (_ : Bool) = _)] | simp only [decide_eq_true _h] | skip)
        exact h3.symm
    · rw [show a.drop i = [] from List.drop_of_length_le (by omega)] at h3
      repeat' (first | with_reducible refine inw ?_ | simp (maxSteps := 900000) (disch := omega) only [go_sem, Nat.reduceEqDiff, ↓reduceIte, reduceCtorEq, Nat.reduceAdd, Nat.reduceMul, Int.reduceToNat, List.reduceReplicate, Nat.reduceLeDiff, Nat.reduceLT, Int.reduceLT, Int.reduceLE, Int.reduceEq] | with_reducible refine pickB_f ?_ | with_reducible refine giv_intro fun _h => ?_ | with_reducible refine alt_intro ?_ fun _h => ?_ | with_reducible refine pickD_nil ?_ | (with_reducible refine brc (fun _h => ?_) fun _h => ?_) <;> first | (exfalso; omega) | simp only [decide_eq_false _h] | simp only [(_h : (_ : Bool) = _)] | simp only [decide_eq_true _h] | skip)
      · rw [h3, nth_drop (show i < b.length by omega)]; rfl
      · rw [h3, List.drop_of_length_le (show b.length ≤ i by omega)]; rfl

/-- ablaut/ablautref01.Order: 2 parameters, 0 captured -/
def s110 : SC := .seq (.reg [o1 4 (.mv (cI 0))])
  (.seq (.seq (.reg [o1 5 (.mv (cI 0))])
    (.block 0 (.loop (.seq (.seq (.reg [o1 6 (.mv (.t 5)),
         o1 7 (.mv (.t 0)),
         o1 8 (.lenL (.t 7)),
         o1 9 (.bin .lss (.t 6) (.t 8)),
         o1 10 (.mv (.t 9)),
         oT 11 (.mv (.t 5)) 10,
         oT 12 (.mv (.t 1)) 10,
         oT 13 (.lenL (.t 12)) 10,
         oT 14 (.bin .lss (.t 11) (.t 13)) 10,
         o1 15 (.pick (.t 10) (.t 14) (cB false))])
        (.cond (.t 15) (.skip) (.exit 0)))
       (.seq (.block 1 (.seq (.seq (.regD [o1 18 (.mv (.t 0)),
            o1 19 (.mv (.t 5)),
            o1 20 (.iaddr 1 (.t 18) (.t 19)),
            o1 21 (.load none (.t 20)),
            o1 22 (.mv (.t 1)),
            o1 23 (.mv (.t 5)),
            o1 24 (.iaddr 1 (.t 22) (.t 23)),
            o1 25 (.load none (.t 24)),
            o1 26 (.bin .lss (.t 21) (.t 25))])
           (.cond (.t 26) (.seq (.reg [o1 4 (.mv (cI (-1)))])
             (.ret)) (.skip)))
          (.seq (.regD [o1 27 (.mv (.t 0)),
            o1 28 (.mv (.t 5)),
            o1 29 (.iaddr 1 (.t 27) (.t 28)),
            o1 30 (.load none (.t 29)),
            o1 31 (.mv (.t 1)),
            o1 32 (.mv (.t 5)),
            o1 33 (.iaddr 1 (.t 31) (.t 32)),
            o1 34 (.load none (.t 33)),
            o1 35 (.bin .gtr (.t 30) (.t 34))])
           (.cond (.t 35) (.seq (.reg [o1 4 (.mv (cI 1))])
             (.ret)) (.skip)))))
        (.reg [o1 16 (.mv (.t 5)),
         o1 17 (.bin .add (.t 16) (cI 1)),
         o1 5 (.mv (.t 17))]))))))
   (.seq (.block 2 (.seq (.reg [o1 37 (.mv (.t 0)),
       o1 38 (.lenL (.t 37)),
       o1 39 (.mv (.t 1)),
       o1 40 (.lenL (.t 39)),
       o1 41 (.bin .lss (.t 38) (.t 40)),
       o1 36 (.mv (.t 41))])
      (.cond (.t 36) (.seq (.reg [o1 4 (.mv (cI (-1)))])
        (.ret)) (.seq (.reg [o1 43 (.mv (.t 0)),
         o1 44 (.lenL (.t 43)),
         o1 45 (.mv (.t 1)),
         o1 46 (.lenL (.t 45)),
         o1 47 (.bin .gtr (.t 44) (.t 46)),
         o1 42 (.mv (.t 47))])
        (.cond (.t 42) (.seq (.reg [o1 4 (.mv (cI 1))])
          (.ret)) (.skip))))))
    (.seq (.reg [o1 4 (.mv (cI 0))])
     (.ret))))
theorem s110_ok : lookF Try.prog 110 = some (s110, 48, [.tmp 4]) := by kernel_rfl
theorem rOrder_ok (a b : List Str) (ha : a.length ≤ 8796093022208) (hb : b.length ≤ 8796093022208) : Fn P 110 [sl a, sl b] (intA (cmpL a b)) := by
  (refine fn_look s110_ok (by simp) (by intro k; simp only [go_sem, Nat.reduceEqDiff, ↓reduceIte, reduceCtorEq, Nat.reduceAdd, Nat.reduceMul, Int.reduceToNat, List.reduceReplicate, Nat.reduceLeDiff, Nat.reduceLT, Int.reduceLT, Int.reduceLE, Int.reduceEq]) fun S hS => cwp_sound _ _ _ _ ?_; simp (maxSteps := 900000) (disch := omega) only [s110, go_sem, Nat.reduceEqDiff, ↓reduceIte, reduceCtorEq, Nat.reduceAdd, Nat.reduceMul, Int.reduceToNat, List.reduceReplicate, Nat.reduceLeDiff, Nat.reduceLT, Int.reduceLT, Int.reduceLE, Int.reduceEq])
  repeat' (first | with_reducible refine inw ?_ | simp (maxSteps := 900000) (disch := omega) only [go_sem, Nat.reduceEqDiff, ↓reduceIte, reduceCtorEq, Nat.reduceAdd, Nat.reduceMul, Int.reduceToNat, List.reduceReplicate, Nat.reduceLeDiff, Nat.reduceLT, Int.reduceLT, Int.reduceLE, Int.reduceEq] | with_reducible refine pickB_f ?_ | with_reducible refine giv_intro fun _h => ?_ | with_reducible refine alt_intro ?_ fun _h => ?_ | with_reducible refine pickD_nil ?_ | (with_reducible refine brc (fun _h => ?_) fun _h => ?_) <;> first | (exfalso; omega) | simp only [decide_eq_false _h] | simp only [(_h : (_ : Bool) = _)] | simp only [decide_eq_true _h] | skip)
  (refine loopC hS [0, 1] (by simp only [go_sem, Nat.reduceEqDiff, ↓reduceIte, reduceCtorEq, Nat.reduceAdd, Nat.reduceMul, Int.reduceToNat, List.reduceReplicate, Nat.reduceLeDiff, Nat.reduceLT, Int.reduceLT, Int.reduceLE, Int.reduceEq]; try rfl) (fun (i : Nat) => [(5, intA i)]) (fun (i : Nat) => []) (fun (i : Nat) => i ≤ a.length ∧ i ≤ b.length ∧ cmpL a b = cmpL (a.drop i) (b.drop i)) (fun (i : Nat) => a.length - i) (0) ?_ (by intro s; first | rfl | (rcases s with ⟨_, _⟩; rfl) | (rcases s with ⟨_, _, _⟩; rfl) | (rcases s with ⟨_, _, _, _⟩; rfl) | (rcases s with ⟨_, _, _, _, _⟩; rfl)) ?_)
  · simp (maxSteps := 900000) (disch := omega) only [go_sem, Nat.reduceEqDiff, ↓reduceIte, reduceCtorEq, Nat.reduceAdd, Nat.reduceMul, Int.reduceToNat, List.reduceReplicate, Nat.reduceLeDiff, Nat.reduceLT, Int.reduceLT, Int.reduceLE, Int.reduceEq]; exact ⟨Nat.zero_le _, Nat.zero_le _⟩
  · rintro i ⟨h1, h2, h3⟩
    replace h1 : i ≤ a.length := h1
    replace h2 : i ≤ b.length := h2
    replace h3 : cmpL a b = cmpL (a.drop i) (b.drop i) := h3
    by_cases hi : i < a.length
    · rw [nth_drop hi] at h3
      by_cases hj : i < b.length
      · rw [nth_drop hj, cmpL] at h3
        repeat' (first | with_reducible refine inw ?_ | simp (maxSteps := 900000) (disch := omega) only [go_sem, Nat.reduceEqDiff, ↓reduceIte, reduceCtorEq, Nat.reduceAdd, Nat.reduceMul, Int.reduceToNat, List.reduceReplicate, Nat.reduceLeDiff, Nat.reduceLT, Int.reduceLT, Int.reduceLE, Int.reduceEq] | with_reducible refine pickB_f ?_ | with_reducible refine giv_intro fun _h => ?_ | with_reducible refine alt_intro ?_ fun _h => ?_ | with_reducible refine pickD_nil ?_ | (with_reducible refine brc (fun _h => ?_) fun _h => ?_) <;> first | (exfalso; omega) | simp only [decide_eq_false _h] | simp only [(_h : (_ : Bool) = _)] | simp only [decide_eq_true _h] | skip)
        · have e : ordS (nth a i) (nth b i) = -1 := by rw [ordS, if_pos _h]
          rw [h3, e]; rfl
        · rename_i h0
          have e : ordS (nth a i) (nth b i) = 1 := by rw [ordS, if_neg (by rw [h0]; decide), if_pos _h]
          rw [h3, e]; rfl
        · rename_i h0
          have e : ordS (nth a i) (nth b i) = 0 := by rw [ordS, if_neg (by rw [h0]; decide), if_neg (by rw [_h]; decide)]
          rw [if_pos e] at h3
          exact ⟨i + 1, ⟨by omega, by omega, by omega, h3⟩, rfl⟩
      · rw [List.drop_of_length_le (i := i) (by omega), cmpL] at h3
        repeat' (first | with_reducible refine inw ?_ | simp (maxSteps := 900000) (disch := omega) only [go_sem, Nat.reduceEqDiff, ↓reduceIte, reduceCtorEq, Nat.reduceAdd, Nat.reduceMul, Int.reduceToNat, List.reduceReplicate, Nat.reduceLeDiff, Nat.reduceLT, Int.reduceLT, Int.reduceLE, Int.reduceEq] | with_reducible refine pickB_f ?_ | with_reducible refine giv_intro fun _h => ?_ | with_reducible refine alt_intro ?_ fun _h => ?_ | with_reducible refine pickD_nil ?_ | (with_reducible refine brc (fun _h => ?_) fun _h => ?_) <;> first | (exfalso; omega) | simp only [decide_eq_false _h] | simp only [(_h : (_ : Bool) = _)] | simp only [decide_eq_true _h] | skip)
        exact h3.symm
    · rw [show a.drop i = [] from List.drop_of_length_le (by omega)] at h3
      repeat' (first | with_reducible refine inw ?_ | simp (maxSteps := 900000) (disch := omega) only [go_sem, Nat.reduceEqDiff, ↓reduceIte, reduceCtorEq, Nat.reduceAdd, Nat.reduceMul, Int.reduceToNat, List.reduceReplicate, Nat.reduceLeDiff, Nat.reduceLT, Int.reduceLT, Int.reduceLE, Int.reduceEq] | with_reducible refine pickB_f ?_ | with_reducible refine giv_intro fun _h => ?_ | with_reducible refine alt_intro ?_ fun _h => ?_ | with_reducible refine pickD_nil ?_ | (with_reducible refine brc (fun _h => ?_) fun _h => ?_) <;> first | (exfalso; omega) | simp only [decide_eq_false _h] | simp only [(_h : (_ : Bool) = _)] | simp only [decide_eq_true _h] | skip)
      · rw [h3, nth_drop (show i < b.length by omega)]; rfl
      · rw [h3, List.drop_of_length_le (show b.length ≤ i by omega)]; rfl

theorem ordS_zero {a b : Str} (h : ordS a b = 0) : ltB a b = false ∧ ltB b a = false := by
  unfold ordS at h
  split at h
  · omega
  · split at h
    · omega
    · rename_i h1 h2; exact ⟨by simpa using h1, by simpa using h2⟩

theorem cmpL_zero : ∀ (a b : List Str), cmpL a b = 0 ↔ a = b
  | [], [] => by simp [cmpL]
  | [], _ :: _ => by simp [cmpL]
  | _ :: _, [] => by simp [cmpL]
  | x :: a, y :: b => by
    rw [cmpL]
    by_cases h : ordS x y = 0
    · rw [if_pos h, cmpL_zero a b]
      obtain ⟨h1, h2⟩ := ordS_zero h
      have e := ltB_tri h1 h2
      subst e
      simp
    · rw [if_neg h]
      refine ⟨fun h2 => absurd h2 h, fun e => ?_⟩
      injection e with e1 e2
      subst e1
      exact absurd (by rw [ordS, ltB_irrefl]; rfl) h
/-- ablaut/ablautref01.Same: 2 parameters, 0 captured -/
def s71 : SC := .seq (.reg [o1 4 (.mv (cB false))])
  (.seq (.reg [o1 5 (.mv (.t 0)),
    o1 6 (.mv (.t 1)),
    o1 7 (.call (.f 110) [(.t 5), (.t 6)]),
    o1 8 (.bin .eql (.t 7) (cI 0)),
    o1 4 (.mv (.t 8))])
   (.ret))
theorem s71_ok : lookF Try.prog 71 = some (s71, 9, [.tmp 4]) := by kernel_rfl
theorem rSame_ok (a b : List Str) (ha : a.length ≤ 8796093022208) (hb : b.length ≤ 8796093022208) : Fn P 71 [sl a, sl b] (boolA (decide (a = b))) := by
  have c1 := rOrder_ok a b ha hb
  have h := cmpL_zero a b
  (refine fn_look s71_ok (by simp) (by intro k; simp only [go_sem, Nat.reduceEqDiff, ↓reduceIte, reduceCtorEq, Nat.reduceAdd, Nat.reduceMul, Int.reduceToNat, List.reduceReplicate, Nat.reduceLeDiff, Nat.reduceLT, Int.reduceLT, Int.reduceLE, Int.reduceEq]) fun S hS => cwp_sound _ _ _ _ ?_; simp (maxSteps := 900000) (disch := omega) only [s71, go_sem, Nat.reduceEqDiff, ↓reduceIte, reduceCtorEq, Nat.reduceAdd, Nat.reduceMul, Int.reduceToNat, List.reduceReplicate, Nat.reduceLeDiff, Nat.reduceLT, Int.reduceLT, Int.reduceLE, Int.reduceEq])
  repeat' (first | with_reducible refine inw ?_ | simp (maxSteps := 900000) (disch := omega) only [go_sem, Nat.reduceEqDiff, ↓reduceIte, reduceCtorEq, Nat.reduceAdd, Nat.reduceMul, Int.reduceToNat, List.reduceReplicate, Nat.reduceLeDiff, Nat.reduceLT, Int.reduceLT, Int.reduceLE, Int.reduceEq] | (with_reducible apply call (c1)); (focus simp (maxSteps := 900000) (disch := omega) only [go_sem, Nat.reduceEqDiff, ↓reduceIte, reduceCtorEq, Nat.reduceAdd, Nat.reduceMul, Int.reduceToNat, List.reduceReplicate, Nat.reduceLeDiff, Nat.reduceLT, Int.reduceLT, Int.reduceLE, Int.reduceEq] <;> rfl) | with_reducible refine pickB_f ?_ | with_reducible refine giv_intro fun _h => ?_ | with_reducible refine alt_intro ?_ fun _h => ?_ | with_reducible refine pickD_nil ?_ | (with_reducible refine brc (fun _h => ?_) fun _h => ?_) <;> first | (exfalso; omega) | simp only [decide_eq_false _h] | simp only [(_h : (_ : Bool) = _)] | simp only [decide_eq_true _h] | skip)
  exact decide_eq_decide.2 h
end Go.Proofs.Ytedbjmonfbpefaa.Ev

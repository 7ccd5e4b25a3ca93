/- Trees: the law DependTrees. -/
import Derived.Test.YtkedbkdbnmmkhaaFnKl
set_option linter.unusedVariables false
set_option linter.unusedSimpArgs false
namespace Go.Proofs.Ytkedbkdbnmmkhaa.Ev
open Go Go.Proofs

theorem drop_cons_eq {α : Type} {k : Nat} [Enc α k] {a b : List α} {i : Nat} (ha : i < a.length) (hb : i < b.length) : (a.drop i = b.drop i) = (nth a i = nth b i ∧ a.drop (i + 1) = b.drop (i + 1)) := by
  rw [nth_drop ha, nth_drop hb]; simp
/-- The order of lists of texts: texts by bytes, a begin first. -/
def orderL : List Str → List Str → Int
  | [], [] => 0
  | [], _ :: _ => -1
  | _ :: _, [] => 1
  | a :: x, b :: y => if ltB a b then -1 else if ltB b a then 1 else orderL x y
/-- ablaut/ablautref01.Order: 2 parameters, 0 captured -/
def s78 : SC := .seq (.reg [o1 4 (.mv (cI 0))])
  (.seq (.seq (.reg [o1 5 (.mv (cI 0))])
    (.block 0 (.loop (.seq (.seq (.reg [o1 6 (.mv (.t 5)),
         o1 7 (.mv (.t 0)),
         o1 8 (.lenL (.t 7)),
         o1 9 (.bin .lss (.t 6) (.t 8)),
         o1 10 (.mv (.t 9)),
         oT 11 (.mv (.t 5)) 10,
         oT 12 (.mv (.t 1)) 10,
         oT 13 (.lenL (.t 12)) 10,
         oT 14 (.bin .lss (.t 11) (.t 13)) 10,
         o1 15 (.pick (.t 10) (.t 14) (cB false))])
        (.cond (.t 15) (.skip) (.exit 0)))
       (.seq (.block 1 (.seq (.seq (.regD [o1 18 (.mv (.t 0)),
            o1 19 (.mv (.t 5)),
            o1 20 (.iaddr 1 (.t 18) (.t 19)),
            o1 21 (.load none (.t 20)),
            o1 22 (.mv (.t 1)),
            o1 23 (.mv (.t 5)),
            o1 24 (.iaddr 1 (.t 22) (.t 23)),
            o1 25 (.load none (.t 24)),
            o1 26 (.bin .lss (.t 21) (.t 25))])
           (.cond (.t 26) (.seq (.reg [o1 4 (.mv (cI (-1)))])
             (.ret)) (.skip)))
          (.seq (.regD [o1 27 (.mv (.t 0)),
            o1 28 (.mv (.t 5)),
            o1 29 (.iaddr 1 (.t 27) (.t 28)),
            o1 30 (.load none (.t 29)),
            o1 31 (.mv (.t 1)),
            o1 32 (.mv (.t 5)),
            o1 33 (.iaddr 1 (.t 31) (.t 32)),
            o1 34 (.load none (.t 33)),
            o1 35 (.bin .gtr (.t 30) (.t 34))])
           (.cond (.t 35) (.seq (.reg [o1 4 (.mv (cI 1))])
             (.ret)) (.skip)))))
        (.reg [o1 16 (.mv (.t 5)),
         o1 17 (.bin .add (.t 16) (cI 1)),
         o1 5 (.mv (.t 17))]))))))
   (.seq (.block 2 (.seq (.reg [o1 37 (.mv (.t 0)),
       o1 38 (.lenL (.t 37)),
       o1 39 (.mv (.t 1)),
       o1 40 (.lenL (.t 39)),
       o1 41 (.bin .lss (.t 38) (.t 40)),
       o1 36 (.mv (.t 41))])
      (.cond (.t 36) (.seq (.reg [o1 4 (.mv (cI (-1)))])
        (.ret)) (.seq (.reg [o1 43 (.mv (.t 0)),
         o1 44 (.lenL (.t 43)),
         o1 45 (.mv (.t 1)),
         o1 46 (.lenL (.t 45)),
         o1 47 (.bin .gtr (.t 44) (.t 46)),
         o1 42 (.mv (.t 47))])
        (.cond (.t 42) (.seq (.reg [o1 4 (.mv (cI 1))])
          (.ret)) (.skip))))))
    (.seq (.reg [o1 4 (.mv (cI 0))])
     (.ret))))
theorem s78_ok : lookF Try.prog 78 = some (s78, 48, [.tmp 4]) := by kernel_rfl
theorem Order_ok (a b : List Str) : Fn P 78 [sl a, sl b] (intA (orderL a b)) := by
  (refine fn_look s78_ok (by simp) (by intro k; simp only [go_sem, Nat.reduceEqDiff, ↓reduceIte, reduceCtorEq, Nat.reduceAdd, Nat.reduceMul, Int.reduceToNat, List.reduceReplicate, Nat.reduceLeDiff, Nat.reduceLT, Int.reduceLT, Int.reduceLE, Int.reduceEq]) fun S hS => cwp_sound _ _ _ _ ?_; simp (disch := omega) only [s78, go_sem, Nat.reduceEqDiff, ↓reduceIte, reduceCtorEq, Nat.reduceAdd, Nat.reduceMul, Int.reduceToNat, List.reduceReplicate, Nat.reduceLeDiff, Nat.reduceLT, Int.reduceLT, Int.reduceLE, Int.reduceEq])
  (refine loopC hS [0, 1] (by simp only [go_sem, Nat.reduceEqDiff, ↓reduceIte, reduceCtorEq, Nat.reduceAdd, Nat.reduceMul, Int.reduceToNat, List.reduceReplicate, Nat.reduceLeDiff, Nat.reduceLT, Int.reduceLT, Int.reduceLE, Int.reduceEq]; try rfl) (fun (i : Nat) => [(5, intA i)]) (fun (i : Nat) => []) (fun (i : Nat) => i ≤ a.length ∧ i ≤ b.length ∧ orderL a b = orderL (a.drop i) (b.drop i)) (fun (i : Nat) => a.length - i) (0) ?h01 ?hn1 ?rd1; case hn1 => (intro s; first | rfl | (rcases s with ⟨_, _⟩; rfl) | (rcases s with ⟨_, _, _⟩; rfl) | (rcases s with ⟨_, _, _, _⟩; rfl) | (rcases s with ⟨_, _, _, _, _⟩; rfl)))
  · simp (disch := omega) only [go_sem, Nat.reduceEqDiff, ↓reduceIte, reduceCtorEq, Nat.reduceAdd, Nat.reduceMul, Int.reduceToNat, List.reduceReplicate, Nat.reduceLeDiff, Nat.reduceLT, Int.reduceLT, Int.reduceLE, Int.reduceEq]; simp
  rintro i ⟨hi, hi2, hI⟩
  repeat' (first | with_reducible refine inw ?_ | simp (disch := omega) only [go_sem, Nat.reduceEqDiff, ↓reduceIte, reduceCtorEq, Nat.reduceAdd, Nat.reduceMul, Int.reduceToNat, List.reduceReplicate, Nat.reduceLeDiff, Nat.reduceLT, Int.reduceLT, Int.reduceLE, Int.reduceEq] | with_reducible refine giv_intro fun _h => ?_ | with_reducible refine alt_intro ?_ fun _h => ?_ | with_reducible refine pickD_nil ?_ | (with_reducible refine brc (fun _h => ?_) fun _h => ?_) <;> first | (exfalso; omega) | simp only [decide_eq_false _h] | simp only [(_h : (_ : Bool) = _)] | simp only [decide_eq_true _h] | skip)
  all_goals rw [hI]
  · rw [nth_drop (l := a) (i := i) (by omega), nth_drop (l := b) (i := i) (by omega), orderL, if_pos _h]
  · rename_i h; rw [nth_drop (l := a) (i := i) (by omega), nth_drop (l := b) (i := i) (by omega), orderL, if_neg (by rw [h]; simp), if_pos _h]
  · rename_i h; refine ⟨i + 1, ⟨by omega, by omega, by omega, ?_⟩, by omega⟩
    rw [nth_drop (l := a) (i := i) (by omega), nth_drop (l := b) (i := i) (by omega), orderL, if_neg (by rw [h]; simp), if_neg (by rw [_h]; simp)]
  all_goals first
    | omega
    | (rw [drop_end (l := a) (i := i) (by omega), drop_end (l := b) (i := i) (by omega)]; rfl)
    | (rw [drop_end (l := a) (i := i) (by omega), nth_drop (l := b) (i := i) (by omega)]; rfl)
    | (rw [drop_end (l := b) (i := i) (by omega), nth_drop (l := a) (i := i) (by omega)]; rfl)
theorem orderL_zero {a b : List Str} : orderL a b = 0 ↔ a = b := by
  induction a generalizing b with
  | nil => cases b <;> simp [orderL]
  | cons x a ih =>
    cases b with
    | nil => simp [orderL]
    | cons y b =>
      simp only [orderL]
      by_cases h1 : ltB x y = true
      · rw [if_pos h1]; simp; rintro rfl; rw [ltB_irrefl] at h1; cases h1
      · rw [if_neg h1]
        by_cases h2 : ltB y x = true
        · rw [if_pos h2]; simp; rintro rfl; rw [ltB_irrefl] at h2; cases h2
        · rw [if_neg h2, ih]
          have := ltB_tri (by simpa using h1) (by simpa using h2)
          simp [this]
/-- ablaut/ablautref01.Same: 2 parameters, 0 captured -/
def s49 : SC := .seq (.reg [o1 4 (.mv (cB false))])
  (.seq (.reg [o1 5 (.mv (.t 0)),
    o1 6 (.mv (.t 1)),
    o1 7 (.call (.f 78) [(.t 5), (.t 6)]),
    o1 8 (.bin .eql (.t 7) (cI 0)),
    o1 4 (.mv (.t 8))])
   (.ret))
theorem s49_ok : lookF Try.prog 49 = some (s49, 9, [.tmp 4]) := by kernel_rfl
theorem rSame_ok (a b : List Str) : Fn P 49 [sl a, sl b] (boolA (decide (a = b))) := by
  (refine fn_look s49_ok (by simp) (by intro k; simp only [go_sem, Nat.reduceEqDiff, ↓reduceIte, reduceCtorEq, Nat.reduceAdd, Nat.reduceMul, Int.reduceToNat, List.reduceReplicate, Nat.reduceLeDiff, Nat.reduceLT, Int.reduceLT, Int.reduceLE, Int.reduceEq]) fun S hS => cwp_sound _ _ _ _ ?_; simp (disch := omega) only [s49, go_sem, Nat.reduceEqDiff, ↓reduceIte, reduceCtorEq, Nat.reduceAdd, Nat.reduceMul, Int.reduceToNat, List.reduceReplicate, Nat.reduceLeDiff, Nat.reduceLT, Int.reduceLT, Int.reduceLE, Int.reduceEq])
  repeat' (first | with_reducible refine inw ?_ | simp (disch := omega) only [go_sem, Nat.reduceEqDiff, ↓reduceIte, reduceCtorEq, Nat.reduceAdd, Nat.reduceMul, Int.reduceToNat, List.reduceReplicate, Nat.reduceLeDiff, Nat.reduceLT, Int.reduceLT, Int.reduceLE, Int.reduceEq] | (with_reducible apply call (Order_ok a b)); (focus simp (disch := omega) only [go_sem, Nat.reduceEqDiff, ↓reduceIte, reduceCtorEq, Nat.reduceAdd, Nat.reduceMul, Int.reduceToNat, List.reduceReplicate, Nat.reduceLeDiff, Nat.reduceLT, Int.reduceLT, Int.reduceLE, Int.reduceEq] <;> rfl) | with_reducible refine giv_intro fun _h => ?_ | with_reducible refine alt_intro ?_ fun _h => ?_ | with_reducible refine pickD_nil ?_ | (with_reducible refine brc (fun _h => ?_) fun _h => ?_) <;> first | (exfalso; omega) | simp only [decide_eq_false _h] | simp only [(_h : (_ : Bool) = _)] | simp only [decide_eq_true _h] | skip)
  simp only [decide_eq_decide, orderL_zero]
theorem hung_ext {x y : Hung} : x = y ↔ x.1 = y.1 ∧ x.2.1 = y.2.1 ∧ x.2.2 = y.2.2 := by
  obtain ⟨a, b, c⟩ := x; obtain ⟨d, e, f⟩ := y; simp
/-- ablaut/ablautref21.Same: 2 parameters, 0 captured -/
def s17 : SC := .seq (.reg [o1 4 (.mv (cB false))])
  (.seq (.seq (.reg [o1 6 (.mv (.t 0)),
     o1 7 (.lenL (.t 6)),
     o1 8 (.mv (.t 1)),
     o1 9 (.lenL (.t 8)),
     o1 10 (.bin .neq (.t 7) (.t 9))])
    (.cond (.t 10) (.seq (.reg [o1 4 (.mv (cB false))])
      (.ret)) (.skip)))
   (.seq (.seq (.reg [o1 5 (.mv (cI 0))])
     (.block 0 (.loop (.seq (.seq (.reg [o1 11 (.mv (.t 5)),
          o1 12 (.mv (.t 0)),
          o1 13 (.lenL (.t 12)),
          o1 14 (.bin .lss (.t 11) (.t 13))])
         (.cond (.t 14) (.skip) (.exit 0)))
        (.seq (.block 1 (.seq (.regD [o1 17 (.mv (.t 0)),
            o1 18 (.mv (.t 5)),
            o1 19 (.iaddr 3 (.t 17) (.t 18)),
            o1 20 (.faddr 0 (.t 19)),
            o1 21 (.load none (.t 20)),
            o1 22 (.mv (.t 1)),
            o1 23 (.mv (.t 5)),
            o1 24 (.iaddr 3 (.t 22) (.t 23)),
            o1 25 (.faddr 0 (.t 24)),
            o1 26 (.load none (.t 25)),
            o1 27 (.call (.f 49) [(.t 21), (.t 26)]),
            o1 28 (.un .not (.t 27)),
            o1 29 (.mv (.t 28)),
            oF 30 (.mv (.t 0)) 29,
            oF 31 (.mv (.t 5)) 29,
            oF 32 (.iaddr 3 (.t 30) (.t 31)) 29,
            oF 33 (.faddr 1 (.t 32)) 29,
            oF 34 (.load none (.t 33)) 29,
            oF 35 (.mv (.t 1)) 29,
            oF 36 (.mv (.t 5)) 29,
            oF 37 (.iaddr 3 (.t 35) (.t 36)) 29,
            oF 38 (.faddr 1 (.t 37)) 29,
            oF 39 (.load none (.t 38)) 29,
            oF 40 (.bin .neq (.t 34) (.t 39)) 29,
            o1 41 (.pick (.t 29) (cB true) (.t 40)),
            o1 42 (.mv (.t 41)),
            oF 43 (.mv (.t 0)) 42,
            oF 44 (.mv (.t 5)) 42,
            oF 45 (.iaddr 3 (.t 43) (.t 44)) 42,
            oF 46 (.faddr 2 (.t 45)) 42,
            oF 47 (.load none (.t 46)) 42,
            oF 48 (.mv (.t 1)) 42,
            oF 49 (.mv (.t 5)) 42,
            oF 50 (.iaddr 3 (.t 48) (.t 49)) 42,
            oF 51 (.faddr 2 (.t 50)) 42,
            oF 52 (.load none (.t 51)) 42,
            oF 53 (.bin .neq (.t 47) (.t 52)) 42,
            o1 54 (.pick (.t 42) (cB true) (.t 53))])
           (.cond (.t 54) (.seq (.reg [o1 4 (.mv (cB false))])
             (.ret)) (.skip))))
         (.reg [o1 15 (.mv (.t 5)),
          o1 16 (.bin .add (.t 15) (cI 1)),
          o1 5 (.mv (.t 16))]))))))
    (.seq (.reg [o1 4 (.mv (cB true))])
     (.ret))))
theorem s17_ok : lookF Try.prog 17 = some (s17, 55, [.tmp 4]) := by kernel_rfl
set_option maxHeartbeats 1000000 in
theorem same_ok (a b : List Hung) : Fn P 17 [sl a, sl b] (boolA (decide (a = b))) := by
  (refine fn_look s17_ok (by simp) (by intro k; simp only [go_sem, Nat.reduceEqDiff, ↓reduceIte, reduceCtorEq, Nat.reduceAdd, Nat.reduceMul, Int.reduceToNat, List.reduceReplicate, Nat.reduceLeDiff, Nat.reduceLT, Int.reduceLT, Int.reduceLE, Int.reduceEq]) fun S hS => cwp_sound _ _ _ _ ?_; simp (disch := omega) only [s17, go_sem, Nat.reduceEqDiff, ↓reduceIte, reduceCtorEq, Nat.reduceAdd, Nat.reduceMul, Int.reduceToNat, List.reduceReplicate, Nat.reduceLeDiff, Nat.reduceLT, Int.reduceLT, Int.reduceLE, Int.reduceEq])
  repeat' (first | with_reducible refine inw ?_ | simp (disch := omega) only [go_sem, Nat.reduceEqDiff, ↓reduceIte, reduceCtorEq, Nat.reduceAdd, Nat.reduceMul, Int.reduceToNat, List.reduceReplicate, Nat.reduceLeDiff, Nat.reduceLT, Int.reduceLT, Int.reduceLE, Int.reduceEq] | with_reducible refine giv_intro fun _h => ?_ | with_reducible refine alt_intro ?_ fun _h => ?_ | with_reducible refine pickD_nil ?_ | (with_reducible refine brc (fun _h => ?_) fun _h => ?_) <;> first | (exfalso; omega) | simp only [decide_eq_false _h] | simp only [(_h : (_ : Bool) = _)] | simp only [decide_eq_true _h] | skip)
  · exact (decide_eq_false (by rintro rfl; exact _h rfl)).symm
  (refine loopC hS [0, 1] (by simp only [go_sem, Nat.reduceEqDiff, ↓reduceIte, reduceCtorEq, Nat.reduceAdd, Nat.reduceMul, Int.reduceToNat, List.reduceReplicate, Nat.reduceLeDiff, Nat.reduceLT, Int.reduceLT, Int.reduceLE, Int.reduceEq]; try rfl) (fun (i : Nat) => [(5, intA i)]) (fun (i : Nat) => []) (fun (i : Nat) => i ≤ a.length ∧ (a = b ↔ a.drop i = b.drop i)) (fun (i : Nat) => a.length - i) (0) ?h02 ?hn2 ?rd2; case hn2 => (intro s; first | rfl | (rcases s with ⟨_, _⟩; rfl) | (rcases s with ⟨_, _, _⟩; rfl) | (rcases s with ⟨_, _, _, _⟩; rfl) | (rcases s with ⟨_, _, _, _, _⟩; rfl)))
  · simp (disch := omega) only [go_sem, Nat.reduceEqDiff, ↓reduceIte, reduceCtorEq, Nat.reduceAdd, Nat.reduceMul, Int.reduceToNat, List.reduceReplicate, Nat.reduceLeDiff, Nat.reduceLT, Int.reduceLT, Int.reduceLE, Int.reduceEq]; simp
  rintro i ⟨hi, hI⟩
  replace hi : i ≤ a.length := hi
  replace hI : a = b ↔ a.drop i = b.drop i := hI
  by_cases hil : i < a.length
  · have hib : i < b.length := by omega
    rw [drop_cons_eq hil hib, hung_ext] at hI
    repeat' (first | with_reducible refine inw ?_ | simp (disch := omega) only [go_sem, Nat.reduceEqDiff, ↓reduceIte, reduceCtorEq, Nat.reduceAdd, Nat.reduceMul, Int.reduceToNat, List.reduceReplicate, Nat.reduceLeDiff, Nat.reduceLT, Int.reduceLT, Int.reduceLE, Int.reduceEq] | (with_reducible apply call_D (rSame_ok (nth a i).1 (nth b i).1)); (focus simp (disch := omega) only [go_sem, Nat.reduceEqDiff, ↓reduceIte, reduceCtorEq, Nat.reduceAdd, Nat.reduceMul, Int.reduceToNat, List.reduceReplicate, Nat.reduceLeDiff, Nat.reduceLT, Int.reduceLT, Int.reduceLE, Int.reduceEq] <;> rfl) | with_reducible refine giv_intro fun _h => ?_ | with_reducible refine alt_intro ?_ fun _h => ?_ | with_reducible refine pickD_nil ?_ | (with_reducible refine brc (fun _h => ?_) fun _h => ?_) <;> first | (exfalso; omega) | simp only [decide_eq_false _h] | simp only [(_h : (_ : Bool) = _)] | simp only [decide_eq_true _h] | skip)
    all_goals first
      | exact ⟨i + 1, ⟨by omega, by omega, hI.trans ⟨fun h => h.2, fun h => ⟨⟨by assumption, by assumption, by assumption⟩, h⟩⟩⟩, by omega⟩
      | exact (decide_eq_false (by rw [hI]; exact fun h => _h h.1.1)).symm
      | exact (decide_eq_false (by rw [hI]; exact fun h => _h h.1.2.1)).symm
      | exact (decide_eq_false (by rw [hI]; exact fun h => _h h.1.2.2)).symm
  · rw [List.drop_eq_nil_of_le (by omega), List.drop_eq_nil_of_le (by omega)] at hI
    repeat' (first | with_reducible refine inw ?_ | simp (disch := omega) only [go_sem, Nat.reduceEqDiff, ↓reduceIte, reduceCtorEq, Nat.reduceAdd, Nat.reduceMul, Int.reduceToNat, List.reduceReplicate, Nat.reduceLeDiff, Nat.reduceLT, Int.reduceLT, Int.reduceLE, Int.reduceEq] | with_reducible refine giv_intro fun _h => ?_ | with_reducible refine alt_intro ?_ fun _h => ?_ | with_reducible refine pickD_nil ?_ | (with_reducible refine brc (fun _h => ?_) fun _h => ?_) <;> first | (exfalso; omega) | simp only [decide_eq_false _h] | simp only [(_h : (_ : Bool) = _)] | simp only [decide_eq_true _h] | skip)
    exact (decide_eq_true (hI.2 rfl)).symm
/-- A frame without open nodes, with one root. -/
def openB (l : List Hung) : Bool := l.any fun h => decide (h.2.1 = -2)
def wholeB (l : List Hung) : Bool := !openB l && (decide (cntF l = 1) || decide (l.length = 0))
/-- ablaut/depend.whole: 1 parameters, 0 captured -/
def s52 : SC := .seq (.reg [o1 2 (.mv (cB false))])
  (.seq (.reg [o1 3 (.mv (cI 0))])
   (.seq (.seq (.reg [o1 6 (.mv (.t 0)),
      o1 7 (.lenL (.t 6)),
      o1 8 (.mv (cI 0))])
     (.block 0 (.loop (.seq (.reg [o1 9 (.bin .lss (.t 8) (.t 7))])
        (.seq (.cond (.t 9) (.skip) (.exit 0))
         (.seq (.block 1 (.seq (.reg [o1 10 (.iaddr 3 (.t 6) (.t 8)),
             o1 11 (.load (some 3) (.t 10)),
             o1 5 (.alloc 34 3 [(.slice none 0 0), (.int .i64 0), (.string ⟨#[]⟩)]),
             o0 (.store 3 (.t 5) (.t 11))])
            (.seq (.seq (.reg [o1 12 (.faddr 1 (.t 5)),
               o1 13 (.load none (.t 12)),
               o1 14 (.bin .eql (.t 13) (cI (-2)))])
              (.cond (.t 14) (.seq (.reg [o1 2 (.mv (cB false))])
                (.ret)) (.skip)))
             (.seq (.reg [o1 15 (.faddr 1 (.t 5)),
               o1 16 (.load none (.t 15)),
               o1 17 (.bin .eql (.t 16) (cI (-1)))])
              (.cond (.t 17) (.reg [o1 18 (.mv (.t 3)),
                o1 19 (.bin .add (.t 18) (cI 1)),
                o1 3 (.mv (.t 19))]) (.skip))))))
          (.reg [o1 20 (.bin .add (.t 8) (cI 1)),
           o1 8 (.mv (.t 20))])))))))
    (.seq (.reg [o1 21 (.mv (.t 3)),
      o1 22 (.bin .eql (.t 21) (cI 1)),
      o1 23 (.mv (.t 22)),
      oF 24 (.mv (.t 0)) 23,
      oF 25 (.lenL (.t 24)) 23,
      oF 26 (.bin .eql (.t 25) (cI 0)) 23,
      o1 27 (.pick (.t 23) (cB true) (.t 26)),
      o1 2 (.mv (.t 27))])
     (.ret))))
theorem s52_ok : lookF Try.prog 52 = some (s52, 28, [.tmp 2]) := by kernel_rfl
theorem whole_ok (l : List Hung) (hl : l.length ≤ 100000) : Fn P 52 [sl l] (boolA (wholeB l)) := by
  (refine fn_look s52_ok (by simp) (by intro k; simp only [go_sem, Nat.reduceEqDiff, ↓reduceIte, reduceCtorEq, Nat.reduceAdd, Nat.reduceMul, Int.reduceToNat, List.reduceReplicate, Nat.reduceLeDiff, Nat.reduceLT, Int.reduceLT, Int.reduceLE, Int.reduceEq]) fun S hS => cwp_sound _ _ _ _ ?_; simp (disch := omega) only [s52, go_sem, Nat.reduceEqDiff, ↓reduceIte, reduceCtorEq, Nat.reduceAdd, Nat.reduceMul, Int.reduceToNat, List.reduceReplicate, Nat.reduceLeDiff, Nat.reduceLT, Int.reduceLT, Int.reduceLE, Int.reduceEq])
  repeat' (first | with_reducible refine inw ?_ | simp (disch := omega) only [go_sem, Nat.reduceEqDiff, ↓reduceIte, reduceCtorEq, Nat.reduceAdd, Nat.reduceMul, Int.reduceToNat, List.reduceReplicate, Nat.reduceLeDiff, Nat.reduceLT, Int.reduceLT, Int.reduceLE, Int.reduceEq] | with_reducible refine giv_intro fun _h => ?_ | with_reducible refine alt_intro ?_ fun _h => ?_ | with_reducible refine pickD_nil ?_ | (with_reducible refine brc (fun _h => ?_) fun _h => ?_) <;> first | (exfalso; omega) | simp only [decide_eq_false _h] | simp only [(_h : (_ : Bool) = _)] | simp only [decide_eq_true _h] | skip)
  (refine loopC hS [0, 6, 7] (by simp only [go_sem, Nat.reduceEqDiff, ↓reduceIte, reduceCtorEq, Nat.reduceAdd, Nat.reduceMul, Int.reduceToNat, List.reduceReplicate, Nat.reduceLeDiff, Nat.reduceLT, Int.reduceLT, Int.reduceLE, Int.reduceEq]; try rfl) (fun (⟨i, c⟩ : Nat × Nat) => [(3, intA c), (8, intA i)]) (fun (⟨i, c⟩ : Nat × Nat) => []) (fun (⟨i, c⟩ : Nat × Nat) => i ≤ l.length ∧ c ≤ i ∧ cntF l = c + cntF (l.drop i) ∧ openB l = openB (l.drop i)) (fun (⟨i, c⟩ : Nat × Nat) => l.length - i) ((0, 0)) ?h03 ?hn3 ?rd3; case hn3 => (intro s; first | rfl | (rcases s with ⟨_, _⟩; rfl) | (rcases s with ⟨_, _, _⟩; rfl) | (rcases s with ⟨_, _, _, _⟩; rfl) | (rcases s with ⟨_, _, _, _, _⟩; rfl)))
  · simp (disch := omega) only [go_sem, Nat.reduceEqDiff, ↓reduceIte, reduceCtorEq, Nat.reduceAdd, Nat.reduceMul, Int.reduceToNat, List.reduceReplicate, Nat.reduceLeDiff, Nat.reduceLT, Int.reduceLT, Int.reduceLE, Int.reduceEq]; simp
  rintro ⟨i, c⟩ ⟨hi, hc, hC, hO⟩
  replace hi : i ≤ l.length := hi
  replace hc : c ≤ i := hc
  replace hC : cntF l = c + cntF (l.drop i) := hC
  replace hO : openB l = openB (l.drop i) := hO
  by_cases hil : i < l.length
  · rw [nth_drop hil, cntF] at hC
    rw [nth_drop hil] at hO
    have hO2 : openB l = (decide ((nth l i).2.1 = -2) || openB (l.drop (i + 1))) := hO
    repeat' (first | with_reducible refine inw ?_ | simp (disch := omega) only [go_sem, Nat.reduceEqDiff, ↓reduceIte, reduceCtorEq, Nat.reduceAdd, Nat.reduceMul, Int.reduceToNat, List.reduceReplicate, Nat.reduceLeDiff, Nat.reduceLT, Int.reduceLT, Int.reduceLE, Int.reduceEq] | with_reducible refine giv_intro fun _h => ?_ | with_reducible refine alt_intro ?_ fun _h => ?_ | with_reducible refine pickD_nil ?_ | (with_reducible refine brc (fun _h => ?_) fun _h => ?_) <;> first | (exfalso; omega) | simp only [decide_eq_false _h] | simp only [(_h : (_ : Bool) = _)] | simp only [decide_eq_true _h] | skip)
    · rw [wholeB, hO2, decide_eq_true _h]; rfl
    · rw [decide_eq_false (by assumption), Bool.false_or] at hO2
      rw [if_pos _h] at hC
      refine ⟨(i + 1, c + 1), ?_⟩
      dsimp only
      exact ⟨⟨by omega, by omega, by omega, by omega, hO2⟩, by omega, by omega⟩
    · rw [decide_eq_false (by assumption), Bool.false_or] at hO2
      rw [if_neg _h] at hC
      refine ⟨(i + 1, c), ?_⟩
      dsimp only
      exact ⟨⟨by omega, by omega, by omega, by omega, hO2⟩, rfl, by omega⟩
  · rw [List.drop_eq_nil_of_le (by omega)] at hC hO
    have hC2 : cntF l = c := hC
    have hO2 : openB l = false := hO
    rw [wholeB, hO2, hC2]
    repeat' (first | with_reducible refine inw ?_ | simp (disch := omega) only [go_sem, Nat.reduceEqDiff, ↓reduceIte, reduceCtorEq, Nat.reduceAdd, Nat.reduceMul, Int.reduceToNat, List.reduceReplicate, Nat.reduceLeDiff, Nat.reduceLT, Int.reduceLT, Int.reduceLE, Int.reduceEq] | with_reducible refine giv_intro fun _h => ?_ | with_reducible refine alt_intro ?_ fun _h => ?_ | with_reducible refine pickD_nil ?_ | (with_reducible refine brc (fun _h => ?_) fun _h => ?_) <;> first | (exfalso; omega) | simp only [decide_eq_false _h] | simp only [(_h : (_ : Bool) = _)] | simp only [decide_eq_true _h] | skip)
    · rw [decide_eq_true (p := c = 1) (by omega)]; rfl
    · rw [decide_eq_false (p := c = 1) (by omega), Bool.true_and, Bool.false_or, decide_eq_decide]
      omega
def treeT (l : List Hung) : Bool × Int := if formE l ≠ 0 then (false, formE l) else (!ringsB l && wholeB l, 0)
/-- ablaut/depend.Tree: 1 parameters, 0 captured -/
def s18 : SC := .seq (.reg [o1 2 (.mv (cB false)),
   o1 3 (.mv (cI 0))])
  (.seq (.seq (.reg [o1 5 (.mv (.t 0)),
     o1 6 (.call (.f 50) [(.t 5)]),
     o1 4 (.mv (.t 6))])
    (.seq (.reg [o1 7 (.mv (.t 4)),
      o1 8 (.bin .neq (.t 7) (cI 0))])
     (.cond (.t 8) (.seq (.reg [o1 9 (.mv (.t 4)),
        o1 2 (.mv (cB false)),
        o1 3 (.mv (.t 9))])
       (.ret)) (.skip))))
   (.seq (.reg [o1 10 (.mv (.t 0)),
     o1 11 (.call (.f 51) [(.t 10)]),
     o1 12 (.un .not (.t 11)),
     o1 13 (.mv (.t 12)),
     oT 14 (.mv (.t 0)) 13,
     oT 15 (.call (.f 52) [(.t 14)]) 13,
     o1 16 (.pick (.t 13) (.t 15) (cB false)),
     o1 2 (.mv (.t 16)),
     o1 3 (.mv (cI 0))])
    (.ret)))
theorem s18_ok : lookF Try.prog 18 = some (s18, 17, [.tmp 2, .tmp 3]) := by kernel_rfl
theorem tree_ok (l : List Hung) (hs : SmH l) : Fn P 18 [sl l] (.tup [boolA (treeT l).1, intA (treeT l).2]) := by
  have c1 := formed_ok l hs
  by_cases h : formE l = 0
  · rw [h] at c1
    have c2 := rings_ok l (formE_hds h)
    have c3 := whole_ok l hs.1
    rw [treeT, if_neg (by omega)]
    (refine fn_look s18_ok (by simp) (by intro k; simp only [go_sem, Nat.reduceEqDiff, ↓reduceIte, reduceCtorEq, Nat.reduceAdd, Nat.reduceMul, Int.reduceToNat, List.reduceReplicate, Nat.reduceLeDiff, Nat.reduceLT, Int.reduceLT, Int.reduceLE, Int.reduceEq]) fun S hS => cwp_sound _ _ _ _ ?_; simp (disch := omega) only [s18, go_sem, Nat.reduceEqDiff, ↓reduceIte, reduceCtorEq, Nat.reduceAdd, Nat.reduceMul, Int.reduceToNat, List.reduceReplicate, Nat.reduceLeDiff, Nat.reduceLT, Int.reduceLT, Int.reduceLE, Int.reduceEq])
    repeat' (first | with_reducible refine inw ?_ | simp (disch := omega) only [go_sem, Nat.reduceEqDiff, ↓reduceIte, reduceCtorEq, Nat.reduceAdd, Nat.reduceMul, Int.reduceToNat, List.reduceReplicate, Nat.reduceLeDiff, Nat.reduceLT, Int.reduceLT, Int.reduceLE, Int.reduceEq] | (with_reducible apply call (c1)); (focus simp (disch := omega) only [go_sem, Nat.reduceEqDiff, ↓reduceIte, reduceCtorEq, Nat.reduceAdd, Nat.reduceMul, Int.reduceToNat, List.reduceReplicate, Nat.reduceLeDiff, Nat.reduceLT, Int.reduceLT, Int.reduceLE, Int.reduceEq] <;> rfl) | (with_reducible apply call (c2)); (focus simp (disch := omega) only [go_sem, Nat.reduceEqDiff, ↓reduceIte, reduceCtorEq, Nat.reduceAdd, Nat.reduceMul, Int.reduceToNat, List.reduceReplicate, Nat.reduceLeDiff, Nat.reduceLT, Int.reduceLT, Int.reduceLE, Int.reduceEq] <;> rfl) | (with_reducible apply call (c3)); (focus simp (disch := omega) only [go_sem, Nat.reduceEqDiff, ↓reduceIte, reduceCtorEq, Nat.reduceAdd, Nat.reduceMul, Int.reduceToNat, List.reduceReplicate, Nat.reduceLeDiff, Nat.reduceLT, Int.reduceLT, Int.reduceLE, Int.reduceEq] <;> rfl) | with_reducible refine giv_intro fun _h => ?_ | with_reducible refine alt_intro ?_ fun _h => ?_ | with_reducible refine pickD_nil ?_ | (with_reducible refine brc (fun _h => ?_) fun _h => ?_) <;> first | (exfalso; omega) | simp only [decide_eq_false _h] | simp only [(_h : (_ : Bool) = _)] | simp only [decide_eq_true _h] | skip)
    all_goals rfl
  · rw [treeT, if_pos h]
    (refine fn_look s18_ok (by simp) (by intro k; simp only [go_sem, Nat.reduceEqDiff, ↓reduceIte, reduceCtorEq, Nat.reduceAdd, Nat.reduceMul, Int.reduceToNat, List.reduceReplicate, Nat.reduceLeDiff, Nat.reduceLT, Int.reduceLT, Int.reduceLE, Int.reduceEq]) fun S hS => cwp_sound _ _ _ _ ?_; simp (disch := omega) only [s18, go_sem, Nat.reduceEqDiff, ↓reduceIte, reduceCtorEq, Nat.reduceAdd, Nat.reduceMul, Int.reduceToNat, List.reduceReplicate, Nat.reduceLeDiff, Nat.reduceLT, Int.reduceLT, Int.reduceLE, Int.reduceEq])
    repeat' (first | with_reducible refine inw ?_ | simp (disch := omega) only [go_sem, Nat.reduceEqDiff, ↓reduceIte, reduceCtorEq, Nat.reduceAdd, Nat.reduceMul, Int.reduceToNat, List.reduceReplicate, Nat.reduceLeDiff, Nat.reduceLT, Int.reduceLT, Int.reduceLE, Int.reduceEq] | (with_reducible apply call (c1)); (focus simp (disch := omega) only [go_sem, Nat.reduceEqDiff, ↓reduceIte, reduceCtorEq, Nat.reduceAdd, Nat.reduceMul, Int.reduceToNat, List.reduceReplicate, Nat.reduceLeDiff, Nat.reduceLT, Int.reduceLT, Int.reduceLE, Int.reduceEq] <;> rfl) | with_reducible refine giv_intro fun _h => ?_ | with_reducible refine alt_intro ?_ fun _h => ?_ | with_reducible refine pickD_nil ?_ | (with_reducible refine brc (fun _h => ?_) fun _h => ?_) <;> first | (exfalso; omega) | simp only [decide_eq_false _h] | simp only [(_h : (_ : Bool) = _)] | simp only [decide_eq_true _h] | skip)
/-! ### hooks far too much -/
def TK (l : List Hook) : Prop := l.length ≤ 140737488351232 ∧ ∀ h ∈ l, TS h.1 ∧ TS h.2.1 ∧ TS h.2.2.1 ∧ h.2.2.2.2.2.size ≤ 140737488351232
def hookN (h : Hook) : Int := IntKind.i64.wrap (IntKind.i64.wrap (IntKind.i64.wrap (textN h.1 + textN h.2.1) + textN h.2.2.1) + h.2.2.2.2.2.size)
def hooksI : List Hook → Int → Int
  | [], n => n
  | h :: hs, n => if n ≤ 100000 then hooksI hs (IntKind.i64.wrap (n + hookN h)) else n
theorem hooksI_stop (l : List Hook) {n : Int} (h : ¬n ≤ 100000) : hooksI l n = n := by cases l <;> simp [hooksI, h]
def hooksN (l : List Hook) : Int := hooksI l l.length
/-- ablaut/ablautlaw21.hooks: 1 parameters, 0 captured -/
def s13 : SC := .seq (.reg [o1 2 (.mv (cI 0))])
  (.seq (.reg [o1 5 (.mv (.t 0)),
    o1 6 (.lenL (.t 5)),
    o1 3 (.mv (.t 6))])
   (.seq (.seq (.reg [o1 4 (.mv (cI 0))])
     (.block 0 (.loop (.seq (.seq (.reg [o1 7 (.mv (.t 4)),
          o1 8 (.mv (.t 0)),
          o1 9 (.lenL (.t 8)),
          o1 10 (.bin .lss (.t 7) (.t 9)),
          o1 11 (.mv (.t 10)),
          oT 12 (.mv (.t 3)) 11,
          oT 13 (.bin .leq (.t 12) (cI 100000)) 11,
          o1 14 (.pick (.t 11) (.t 13) (cB false))])
         (.cond (.t 14) (.skip) (.exit 0)))
        (.seq (.block 1 (.regD [o1 17 (.mv (.t 3)),
           o1 18 (.mv (.t 0)),
           o1 19 (.mv (.t 4)),
           o1 20 (.iaddr 6 (.t 18) (.t 19)),
           o1 21 (.faddr 0 (.t 20)),
           o1 22 (.load none (.t 21)),
           o1 23 (.call (.f 24) [(.t 22)]),
           o1 24 (.mv (.t 0)),
           o1 25 (.mv (.t 4)),
           o1 26 (.iaddr 6 (.t 24) (.t 25)),
           o1 27 (.faddr 1 (.t 26)),
           o1 28 (.load none (.t 27)),
           o1 29 (.call (.f 24) [(.t 28)]),
           o1 30 (.bin .add (.t 23) (.t 29)),
           o1 31 (.mv (.t 0)),
           o1 32 (.mv (.t 4)),
           o1 33 (.iaddr 6 (.t 31) (.t 32)),
           o1 34 (.faddr 2 (.t 33)),
           o1 35 (.load none (.t 34)),
           o1 36 (.call (.f 24) [(.t 35)]),
           o1 37 (.bin .add (.t 30) (.t 36)),
           o1 38 (.mv (.t 0)),
           o1 39 (.mv (.t 4)),
           o1 40 (.iaddr 6 (.t 38) (.t 39)),
           o1 41 (.faddr 5 (.t 40)),
           o1 42 (.load none (.t 41)),
           o1 43 (.lenS (.t 42)),
           o1 44 (.bin .add (.t 37) (.t 43)),
           o1 45 (.bin .add (.t 17) (.t 44)),
           o1 3 (.mv (.t 45))]))
         (.reg [o1 15 (.mv (.t 4)),
          o1 16 (.bin .add (.t 15) (cI 1)),
          o1 4 (.mv (.t 16))]))))))
    (.seq (.reg [o1 46 (.mv (.t 3)),
      o1 2 (.mv (.t 46))])
     (.ret))))
theorem s13_ok : lookF Try.prog 13 = some (s13, 47, [.tmp 2]) := by kernel_rfl
theorem hooks_ok (l : List Hook) : Fn P 13 [sl l] (intA (hooksN l)) := by
  unfold hooksN
  (refine fn_look s13_ok (by simp) (by intro k; simp only [go_sem, Nat.reduceEqDiff, ↓reduceIte, reduceCtorEq, Nat.reduceAdd, Nat.reduceMul, Int.reduceToNat, List.reduceReplicate, Nat.reduceLeDiff, Nat.reduceLT, Int.reduceLT, Int.reduceLE, Int.reduceEq]) fun S hS => cwp_sound _ _ _ _ ?_; simp (disch := omega) only [s13, go_sem, Nat.reduceEqDiff, ↓reduceIte, reduceCtorEq, Nat.reduceAdd, Nat.reduceMul, Int.reduceToNat, List.reduceReplicate, Nat.reduceLeDiff, Nat.reduceLT, Int.reduceLT, Int.reduceLE, Int.reduceEq])
  repeat' (first | with_reducible refine inw ?_ | simp (disch := omega) only [go_sem, Nat.reduceEqDiff, ↓reduceIte, reduceCtorEq, Nat.reduceAdd, Nat.reduceMul, Int.reduceToNat, List.reduceReplicate, Nat.reduceLeDiff, Nat.reduceLT, Int.reduceLT, Int.reduceLE, Int.reduceEq] | with_reducible refine giv_intro fun _h => ?_ | with_reducible refine alt_intro ?_ fun _h => ?_ | with_reducible refine pickD_nil ?_ | (with_reducible refine brc (fun _h => ?_) fun _h => ?_) <;> first | (exfalso; omega) | simp only [decide_eq_false _h] | simp only [(_h : (_ : Bool) = _)] | simp only [decide_eq_true _h] | skip)
  (refine loopC hS [0] (by simp only [go_sem, Nat.reduceEqDiff, ↓reduceIte, reduceCtorEq, Nat.reduceAdd, Nat.reduceMul, Int.reduceToNat, List.reduceReplicate, Nat.reduceLeDiff, Nat.reduceLT, Int.reduceLT, Int.reduceLE, Int.reduceEq]; try rfl) (fun (⟨i, n⟩ : Nat × Int) => [(3, intA n), (4, intA i)]) (fun (⟨i, n⟩ : Nat × Int) => []) (fun (⟨i, n⟩ : Nat × Int) => i ≤ l.length ∧ hooksI l l.length = hooksI (l.drop i) n) (fun (⟨i, n⟩ : Nat × Int) => l.length - i) ((0, (l.length : Int))) ?h04 ?hn4 ?rd4; case hn4 => (intro s; first | rfl | (rcases s with ⟨_, _⟩; rfl) | (rcases s with ⟨_, _, _⟩; rfl) | (rcases s with ⟨_, _, _, _⟩; rfl) | (rcases s with ⟨_, _, _, _, _⟩; rfl)))
  · simp (disch := omega) only [go_sem, Nat.reduceEqDiff, ↓reduceIte, reduceCtorEq, Nat.reduceAdd, Nat.reduceMul, Int.reduceToNat, List.reduceReplicate, Nat.reduceLeDiff, Nat.reduceLT, Int.reduceLT, Int.reduceLE, Int.reduceEq]; simp
  rintro ⟨i, n⟩ ⟨hi, hI⟩
  replace hi : i ≤ l.length := hi
  replace hI : hooksI l l.length = hooksI (l.drop i) n := hI
  by_cases hil : i < l.length
  · by_cases hn : n ≤ 100000
    · rw [nth_drop hil, hooksI, if_pos hn] at hI
      have c1 := texts_ok (nth l i).1
      have c2 := texts_ok (nth l i).2.1
      have c3 := texts_ok (nth l i).2.2.1
      repeat' (first | with_reducible refine inw ?_ | simp (disch := omega) only [go_sem, Nat.reduceEqDiff, ↓reduceIte, reduceCtorEq, Nat.reduceAdd, Nat.reduceMul, Int.reduceToNat, List.reduceReplicate, Nat.reduceLeDiff, Nat.reduceLT, Int.reduceLT, Int.reduceLE, Int.reduceEq] | (with_reducible apply call_D (c1)); (focus simp (disch := omega) only [go_sem, Nat.reduceEqDiff, ↓reduceIte, reduceCtorEq, Nat.reduceAdd, Nat.reduceMul, Int.reduceToNat, List.reduceReplicate, Nat.reduceLeDiff, Nat.reduceLT, Int.reduceLT, Int.reduceLE, Int.reduceEq] <;> rfl) | (with_reducible apply call_D (c2)); (focus simp (disch := omega) only [go_sem, Nat.reduceEqDiff, ↓reduceIte, reduceCtorEq, Nat.reduceAdd, Nat.reduceMul, Int.reduceToNat, List.reduceReplicate, Nat.reduceLeDiff, Nat.reduceLT, Int.reduceLT, Int.reduceLE, Int.reduceEq] <;> rfl) | (with_reducible apply call_D (c3)); (focus simp (disch := omega) only [go_sem, Nat.reduceEqDiff, ↓reduceIte, reduceCtorEq, Nat.reduceAdd, Nat.reduceMul, Int.reduceToNat, List.reduceReplicate, Nat.reduceLeDiff, Nat.reduceLT, Int.reduceLT, Int.reduceLE, Int.reduceEq] <;> rfl) | with_reducible refine giv_intro fun _h => ?_ | with_reducible refine alt_intro ?_ fun _h => ?_ | with_reducible refine pickD_nil ?_ | (with_reducible refine brc (fun _h => ?_) fun _h => ?_) <;> first | (exfalso; omega) | simp only [decide_eq_false _h] | simp only [(_h : (_ : Bool) = _)] | simp only [decide_eq_true _h] | skip)
      exact ⟨(i + 1, _), ⟨by omega, by omega, hI⟩, rfl, by omega⟩
    · rw [hooksI_stop _ hn] at hI
      rw [hI]
      repeat' (first | with_reducible refine inw ?_ | simp (disch := omega) only [go_sem, Nat.reduceEqDiff, ↓reduceIte, reduceCtorEq, Nat.reduceAdd, Nat.reduceMul, Int.reduceToNat, List.reduceReplicate, Nat.reduceLeDiff, Nat.reduceLT, Int.reduceLT, Int.reduceLE, Int.reduceEq] | with_reducible refine giv_intro fun _h => ?_ | with_reducible refine alt_intro ?_ fun _h => ?_ | with_reducible refine pickD_nil ?_ | (with_reducible refine brc (fun _h => ?_) fun _h => ?_) <;> first | (exfalso; omega) | simp only [decide_eq_false _h] | simp only [(_h : (_ : Bool) = _)] | simp only [decide_eq_true _h] | skip)
  · rw [List.drop_eq_nil_of_le (by omega), hooksI] at hI
    rw [hI]
    repeat' (first | with_reducible refine inw ?_ | simp (disch := omega) only [go_sem, Nat.reduceEqDiff, ↓reduceIte, reduceCtorEq, Nat.reduceAdd, Nat.reduceMul, Int.reduceToNat, List.reduceReplicate, Nat.reduceLeDiff, Nat.reduceLT, Int.reduceLT, Int.reduceLE, Int.reduceEq] | with_reducible refine giv_intro fun _h => ?_ | with_reducible refine alt_intro ?_ fun _h => ?_ | with_reducible refine pickD_nil ?_ | (with_reducible refine brc (fun _h => ?_) fun _h => ?_) <;> first | (exfalso; omega) | simp only [decide_eq_false _h] | simp only [(_h : (_ : Bool) = _)] | simp only [decide_eq_true _h] | skip)
theorem hooksI_le : ∀ (l : List Hook) (n : Int), (∀ h ∈ l, TS h.1 ∧ TS h.2.1 ∧ TS h.2.2.1 ∧ h.2.2.2.2.2.size ≤ 140737488351232) → 0 ≤ n → n ≤ 1000000000000000000 → n ≤ hooksI l n ∧ (hooksI l n ≤ 100000 → ∀ h ∈ l, SmS h.1 ∧ SmS h.2.1 ∧ SmS h.2.2.1 ∧ h.2.2.2.2.2.size ≤ 100000)
  | [], n, hs, h0, h1 => by simp [hooksI]
  | h :: hh, n, hs, h0, h1 => by
    obtain ⟨z1, z2, z3, z4⟩ := hs h (by simp)
    obtain ⟨a1, a2, a3⟩ := textN_le z1
    obtain ⟨b1, b2, b3⟩ := textN_le z2
    obtain ⟨d1, d2, d3⟩ := textN_le z3
    have e : hookN h = textN h.1 + textN h.2.1 + textN h.2.2.1 + h.2.2.2.2.2.size := by
      rw [hookN, wrap_in (x := textN h.1 + textN h.2.1) (by omega) (by omega), wrap_in (x := textN h.1 + textN h.2.1 + textN h.2.2.1) (by omega) (by omega), wrap_in (by omega) (by omega)]
    rw [hooksI]
    split
    · rename_i hn
      rw [e, wrap_in (by omega) (by omega)]
      obtain ⟨q1, q3⟩ := hooksI_le hh (n + (textN h.1 + textN h.2.1 + textN h.2.2.1 + h.2.2.2.2.2.size)) (fun x hx => hs x (by simp [hx])) (by omega) (by omega)
      refine ⟨by omega, fun hle x hx => ?_⟩
      rcases List.mem_cons.1 hx with rfl | hx
      · exact ⟨a3 (by omega), b3 (by omega), d3 (by omega), by omega⟩
      · exact q3 hle x hx
    · rename_i hn
      exact ⟨by omega, fun h => absurd h hn⟩
theorem hooks_sm {l : List Hook} (h : TK l) (ho : hooksN l ≤ 100000) : SmK l := by
  obtain ⟨q1, q3⟩ := hooksI_le l l.length h.2 (by omega) (by have := h.1; omega)
  unfold hooksN at ho
  exact ⟨by omega, q3 (by omega)⟩
theorem hang_sm {hs : List Hook} {l : List Hung} (hk : formK hs = 0) (hv : valE l = 0) (hl : SmH l) : SmH (hangL hs l) := by
  obtain ⟨g, _⟩ := hang_good hk hv
  refine ⟨by rw [g.1]; exact hl.1, fun h hh => ?_⟩
  obtain ⟨i, hi, rfl⟩ := List.getElem_of_mem hh
  have hi2 : i < l.length := by rw [← g.1]; exact hi
  have hz := hl.2 _ (nth_mem hi2)
  rw [← nth_eq hi]
  rcases g.2 i hi2 with e | ⟨_, e2, _, e4⟩
  · rw [e]; exact hz
  · refine ⟨?_, by rw [e2]; exact hz.2⟩
    simp only [nameB, Bool.and_eq_true, decide_eq_true_eq] at e4
    omega
/-- ablaut/ablautlaw21.DependTrees: 2 parameters, 0 captured -/
def s4 : SC := .seq (.reg [o1 4 (.mv (cB false))])
  (.seq (.seq (.reg [o1 13 (.mv (.t 1)),
     o1 14 (.call (.f 12) [(.t 13)]),
     o1 15 (.mv (.t 14)),
     oF 16 (.mv (.t 0)) 15,
     oF 17 (.call (.f 13) [(.t 16)]) 15,
     oF 18 (.bin .gtr (.t 17) (cI 100000)) 15,
     o1 19 (.pick (.t 15) (cB true) (.t 18))])
    (.cond (.t 19) (.seq (.reg [o1 20 (.call (.f 14) []),
       o1 4 (.mv (.t 20))])
      (.ret)) (.skip)))
   (.seq (.reg [o1 22 (.mv (.t 0)),
     o1 23 (.mv (.t 1)),
     o1 24 (.call (.f 15) [(.t 22), (.t 23)]),
     o1 21 (.mv (.t 24)),
     o1 25 (.ext (.t 21) 0),
     o1 26 (.ext (.t 21) 1),
     o1 5 (.mv (.t 25)),
     o1 6 (.mv (.t 26))])
    (.seq (.seq (.reg [o1 27 (.mv (.t 6)),
       o1 28 (.bin .neq (.t 27) (cI 0))])
      (.cond (.t 28) (.seq (.reg [o1 29 (.call (.f 14) []),
         o1 4 (.mv (.t 29))])
        (.ret)) (.skip)))
     (.seq (.seq (.reg [o1 30 (.mv (.t 5)),
        o1 31 (.lenL (.t 30)),
        o1 32 (.mv (.t 1)),
        o1 33 (.lenL (.t 32)),
        o1 34 (.bin .neq (.t 31) (.t 33))])
       (.cond (.t 34) (.seq (.reg [o1 4 (.mv (cB false))])
         (.ret)) (.skip)))
      (.seq (.reg [o1 7 (.mv (cI 0))])
       (.seq (.seq (.reg [o1 8 (.mv (cI 0))])
         (.block 0 (.loop (.seq (.seq (.reg [o1 35 (.mv (.t 8)),
              o1 36 (.mv (.t 1)),
              o1 37 (.lenL (.t 36)),
              o1 38 (.bin .lss (.t 35) (.t 37))])
             (.cond (.t 38) (.skip) (.exit 0)))
            (.seq (.block 1 (.seq (.seq (.reg [o1 41 (.mv (.t 1)),
                 o1 42 (.mv (.t 8)),
                 o1 43 (.iaddr 3 (.t 41) (.t 42)),
                 o1 44 (.faddr 1 (.t 43)),
                 o1 45 (.load none (.t 44)),
                 o1 46 (.bin .eql (.t 45) (cI (-1)))])
                (.cond (.t 46) (.reg [o1 47 (.mv (.t 7)),
                  o1 48 (.bin .add (.t 47) (cI 1)),
                  o1 7 (.mv (.t 48))]) (.skip)))
               (.seq (.regD [o1 49 (.mv (.t 1)),
                 o1 50 (.mv (.t 8)),
                 o1 51 (.iaddr 3 (.t 49) (.t 50)),
                 o1 52 (.faddr 1 (.t 51)),
                 o1 53 (.load none (.t 52)),
                 o1 54 (.bin .neq (.t 53) (cI (-2))),
                 o1 55 (.mv (.t 54)),
                 oT 56 (.mv (.t 5)) 55,
                 oT 57 (.mv (.t 8)) 55,
                 oT 58 (.iaddr 3 (.t 56) (.t 57)) 55,
                 oT 59 (.faddr 1 (.t 58)) 55,
                 oT 60 (.load none (.t 59)) 55,
                 oT 61 (.mv (.t 1)) 55,
                 oT 62 (.mv (.t 8)) 55,
                 oT 63 (.iaddr 3 (.t 61) (.t 62)) 55,
                 oT 64 (.faddr 1 (.t 63)) 55,
                 oT 65 (.load none (.t 64)) 55,
                 oT 66 (.bin .neq (.t 60) (.t 65)) 55,
                 oT 67 (.mv (.t 66)) 55,
                 oF 68 (.mv (.t 5)) 67,
                 oF 69 (.mv (.t 8)) 67,
                 oF 70 (.iaddr 3 (.t 68) (.t 69)) 67,
                 oF 71 (.faddr 2 (.t 70)) 67,
                 oF 72 (.load none (.t 71)) 67,
                 oF 73 (.mv (.t 1)) 67,
                 oF 74 (.mv (.t 8)) 67,
                 oF 75 (.iaddr 3 (.t 73) (.t 74)) 67,
                 oF 76 (.faddr 2 (.t 75)) 67,
                 oF 77 (.load none (.t 76)) 67,
                 oF 78 (.bin .neq (.t 72) (.t 77)) 67,
                 oT 79 (.pick (.t 67) (cB true) (.t 78)) 55,
                 o1 80 (.pick (.t 55) (.t 79) (cB false)),
                 o1 81 (.mv (.t 80)),
                 oF 82 (.mv (.t 5)) 81,
                 oF 83 (.mv (.t 8)) 81,
                 oF 84 (.iaddr 3 (.t 82) (.t 83)) 81,
                 oF 85 (.faddr 1 (.t 84)) 81,
                 oF 86 (.load none (.t 85)) 81,
                 oF 87 (.bin .eql (.t 86) (cI (-2))) 81,
                 o1 88 (.pick (.t 81) (cB true) (.t 87))])
                (.cond (.t 88) (.seq (.reg [o1 4 (.mv (cB false))])
                  (.ret)) (.skip)))))
             (.reg [o1 39 (.mv (.t 8)),
              o1 40 (.bin .add (.t 39) (cI 1)),
              o1 8 (.mv (.t 40))]))))))
        (.seq (.reg [o1 90 (.mv (.t 5)),
          o1 91 (.call (.f 18) [(.t 90)]),
          o1 89 (.mv (.t 91)),
          o1 92 (.ext (.t 89) 0),
          o1 93 (.ext (.t 89) 1),
          o1 9 (.mv (.t 92)),
          o1 10 (.mv (.t 93))])
         (.seq (.reg [o1 95 (.mv (.t 0)),
           o1 96 (.mv (.t 5)),
           o1 97 (.call (.f 15) [(.t 95), (.t 96)]),
           o1 94 (.mv (.t 97)),
           o1 98 (.ext (.t 94) 0),
           o1 99 (.ext (.t 94) 1),
           o1 11 (.mv (.t 98)),
           o1 12 (.mv (.t 99))])
          (.seq (.reg [o1 100 (.mv (.t 10)),
            o1 101 (.bin .eql (.t 100) (cI 0)),
            o1 102 (.mv (.t 101)),
            oT 103 (.mv (.t 9)) 102,
            oT 104 (.mv (.t 103)) 102,
            oF 105 (.mv (.t 7)) 104,
            oF 106 (.bin .gtr (.t 105) (cI 1)) 104,
            oT 107 (.pick (.t 104) (cB true) (.t 106)) 102,
            o1 108 (.pick (.t 102) (.t 107) (cB false)),
            o1 109 (.mv (.t 108)),
            oT 110 (.mv (.t 12)) 109,
            oT 111 (.bin .eql (.t 110) (cI 0)) 109,
            o1 112 (.pick (.t 109) (.t 111) (cB false)),
            o1 113 (.mv (.t 112)),
            oT 114 (.mv (.t 5)) 113,
            oT 115 (.mv (.t 11)) 113,
            oT 116 (.call (.f 17) [(.t 114), (.t 115)]) 113,
            o1 117 (.pick (.t 113) (.t 116) (cB false)),
            o1 118 (.mv (.t 117)),
            oT 119 (.call (.f 14) []) 118,
            o1 120 (.pick (.t 118) (.t 119) (cB false)),
            o1 4 (.mv (.t 120))])
           (.ret))))))))))
theorem s4_ok : lookF Try.prog 4 = some (s4, 121, [.tmp 4]) := by kernel_rfl
set_option maxHeartbeats 2000000 in
theorem DependTrees_ok (hs : List Hook) (l : List Hung) (hk : TK hs) (hl : TH l) : Fn P 4 [sl hs, sl l] (boolA true) := by
  have kh := hooks_ok hs
  by_cases h1 : overB l = false
  · have k0 := over_ok l
    rw [h1] at k0
    by_cases h2 : hooksN hs ≤ 100000
    · have ls := over_sm hl h1
      have ks := hooks_sm hk h2
      have c1 := hang_ok hs l ks ls
      by_cases f1 : formK hs = 0
      · by_cases f2 : valE l = 0
        · rw [show hangT hs l = (hangL hs l, 0) by rw [hangT, if_neg (by omega), if_neg (by omega)]] at c1
          have xs := hang_sm f1 f2 ls
          obtain ⟨g1, g2, g3, g4, g5⟩ := hang_good f1 f2
          have gv := gr_val f2 g1 g2 g3
          have c2 := hang_ok hs (hangL hs l) ks xs
          have gs := hang_same hs (x := hangL hs l) (fun j hj => g5 j (by rw [← g1.1]; exact hj))
          rw [show hangT hs (hangL hs l) = (hangL hs l, 0) by rw [hangT, if_neg (by omega), if_neg (by omega), gs]] at c2
          have c3 := tree_ok (hangL hs l) xs
          have gf : formE (hangL hs l) = 0 := by
            unfold valE at gv; split at gv
            · rename_i h; exact absurd gv h
            · rename_i h; omega
          have gw : openB (hangL hs l) = false := by
            rw [openB, List.any_eq_false]
            intro h hh
            obtain ⟨i, hi, rfl⟩ := List.getElem_of_mem hh
            have := g5 i (by rw [← g1.1]; exact hi)
            rw [nth_eq hi] at this
            simpa using this
          rw [show treeT (hangL hs l) = (wholeB (hangL hs l), 0) by rw [treeT, if_neg (by omega), (ringsB_ends g2).2 g3]; rfl] at c3
          have hlen := g1.1
          have hw : cntF l ≤ 1 → wholeB (hangL hs l) = true := fun h => by
            rw [wholeB, gw]
            rcases Nat.eq_zero_or_pos l.length with z | z
            · rw [decide_eq_true (p := (hangL hs l).length = 0) (by omega), Bool.or_true]; rfl
            · rw [decide_eq_true (p := cntF (hangL hs l) = 1) (by rw [g4 z]; omega)]; rfl
          have hkeep : ∀ i, i < l.length → ((nth l i).2.1 ≠ -2 → nth (hangL hs l) i = nth l i) ∧ (nth (hangL hs l) i).2.1 ≠ -2 := fun i hi => ⟨fun h => by
            rcases g1.2 i hi with e | ⟨e, _⟩
            · exact e
            · exact absurd e h, g5 i hi⟩
          have hlb := ls.1
          generalize hangL hs l = x at *
          dsimp only at c1 c2 c3
          (refine fn_look s4_ok (by simp) (by intro k; simp only [go_sem, Nat.reduceEqDiff, ↓reduceIte, reduceCtorEq, Nat.reduceAdd, Nat.reduceMul, Int.reduceToNat, List.reduceReplicate, Nat.reduceLeDiff, Nat.reduceLT, Int.reduceLT, Int.reduceLE, Int.reduceEq]) fun S hS => cwp_sound _ _ _ _ ?_; simp (disch := omega) only [s4, go_sem, Nat.reduceEqDiff, ↓reduceIte, reduceCtorEq, Nat.reduceAdd, Nat.reduceMul, Int.reduceToNat, List.reduceReplicate, Nat.reduceLeDiff, Nat.reduceLT, Int.reduceLT, Int.reduceLE, Int.reduceEq])
          repeat' (first | with_reducible refine inw ?_ | simp (disch := omega) only [go_sem, Nat.reduceEqDiff, ↓reduceIte, reduceCtorEq, Nat.reduceAdd, Nat.reduceMul, Int.reduceToNat, List.reduceReplicate, Nat.reduceLeDiff, Nat.reduceLT, Int.reduceLT, Int.reduceLE, Int.reduceEq] | (with_reducible apply call (k0)); (focus simp (disch := omega) only [go_sem, Nat.reduceEqDiff, ↓reduceIte, reduceCtorEq, Nat.reduceAdd, Nat.reduceMul, Int.reduceToNat, List.reduceReplicate, Nat.reduceLeDiff, Nat.reduceLT, Int.reduceLT, Int.reduceLE, Int.reduceEq] <;> rfl) | (with_reducible apply call (kh)); (focus simp (disch := omega) only [go_sem, Nat.reduceEqDiff, ↓reduceIte, reduceCtorEq, Nat.reduceAdd, Nat.reduceMul, Int.reduceToNat, List.reduceReplicate, Nat.reduceLeDiff, Nat.reduceLT, Int.reduceLT, Int.reduceLE, Int.reduceEq] <;> rfl) | (with_reducible apply call (c1)); (focus simp (disch := omega) only [go_sem, Nat.reduceEqDiff, ↓reduceIte, reduceCtorEq, Nat.reduceAdd, Nat.reduceMul, Int.reduceToNat, List.reduceReplicate, Nat.reduceLeDiff, Nat.reduceLT, Int.reduceLT, Int.reduceLE, Int.reduceEq] <;> rfl) | (with_reducible apply call (known_ok)); (focus simp (disch := omega) only [go_sem, Nat.reduceEqDiff, ↓reduceIte, reduceCtorEq, Nat.reduceAdd, Nat.reduceMul, Int.reduceToNat, List.reduceReplicate, Nat.reduceLeDiff, Nat.reduceLT, Int.reduceLT, Int.reduceLE, Int.reduceEq] <;> rfl) | with_reducible refine giv_intro fun _h => ?_ | with_reducible refine alt_intro ?_ fun _h => ?_ | with_reducible refine pickD_nil ?_ | (with_reducible refine brc (fun _h => ?_) fun _h => ?_) <;> first | (exfalso; omega) | simp only [decide_eq_false _h] | simp only [(_h : (_ : Bool) = _)] | simp only [decide_eq_true _h] | skip)
          (refine loopC hS [0, 1, 5] (by simp only [go_sem, Nat.reduceEqDiff, ↓reduceIte, reduceCtorEq, Nat.reduceAdd, Nat.reduceMul, Int.reduceToNat, List.reduceReplicate, Nat.reduceLeDiff, Nat.reduceLT, Int.reduceLT, Int.reduceLE, Int.reduceEq]; try rfl) (fun (⟨i, c⟩ : Nat × Nat) => [(7, intA c), (8, intA i)]) (fun (⟨i, c⟩ : Nat × Nat) => []) (fun (⟨i, c⟩ : Nat × Nat) => i ≤ l.length ∧ c ≤ i ∧ cntF l = c + cntF (l.drop i)) (fun (⟨i, c⟩ : Nat × Nat) => l.length - i) ((0, 0)) ?h05 ?hn5 ?rd5; case hn5 => (intro s; first | rfl | (rcases s with ⟨_, _⟩; rfl) | (rcases s with ⟨_, _, _⟩; rfl) | (rcases s with ⟨_, _, _, _⟩; rfl) | (rcases s with ⟨_, _, _, _, _⟩; rfl)))
          · simp (disch := omega) only [go_sem, Nat.reduceEqDiff, ↓reduceIte, reduceCtorEq, Nat.reduceAdd, Nat.reduceMul, Int.reduceToNat, List.reduceReplicate, Nat.reduceLeDiff, Nat.reduceLT, Int.reduceLT, Int.reduceLE, Int.reduceEq]; simp
          rintro ⟨i, c⟩ ⟨hi, hc, hC⟩
          replace hi : i ≤ l.length := hi
          replace hc : c ≤ i := hc
          replace hC : cntF l = c + cntF (l.drop i) := hC
          by_cases hil : i < l.length
          · rw [nth_drop hil, cntF] at hC
            obtain ⟨q1, q2⟩ := hkeep i hil
            have hix : i < x.length := by omega
            by_cases q3 : (nth l i).2.1 = -2
            · rw [if_neg (by rw [q3]; omega)] at hC
              repeat' (first | with_reducible refine inw ?_ | simp (disch := omega) only [go_sem, Nat.reduceEqDiff, ↓reduceIte, reduceCtorEq, Nat.reduceAdd, Nat.reduceMul, Int.reduceToNat, List.reduceReplicate, Nat.reduceLeDiff, Nat.reduceLT, Int.reduceLT, Int.reduceLE, Int.reduceEq, q3] | with_reducible refine giv_intro fun _h => ?_ | with_reducible refine alt_intro ?_ fun _h => ?_ | with_reducible refine pickD_nil ?_ | (with_reducible refine brc (fun _h => ?_) fun _h => ?_) <;> first | (exfalso; omega) | simp only [decide_eq_false _h] | simp only [(_h : (_ : Bool) = _)] | simp only [decide_eq_true _h] | skip)
              all_goals first
                | (refine ⟨(i + 1, c), ?_⟩; dsimp only; exact ⟨⟨by omega, by omega, by omega, by omega⟩, rfl, by omega⟩)
                | (exfalso; exact q2 (by assumption))
            · rw [q1 q3] at q2
              by_cases q4 : (nth l i).2.1 = -1
              · rw [if_pos q4] at hC
                repeat' (first | with_reducible refine inw ?_ | simp (disch := omega) only [go_sem, Nat.reduceEqDiff, ↓reduceIte, reduceCtorEq, Nat.reduceAdd, Nat.reduceMul, Int.reduceToNat, List.reduceReplicate, Nat.reduceLeDiff, Nat.reduceLT, Int.reduceLT, Int.reduceLE, Int.reduceEq, q1 q3] | with_reducible refine giv_intro fun _h => ?_ | with_reducible refine alt_intro ?_ fun _h => ?_ | with_reducible refine pickD_nil ?_ | (with_reducible refine brc (fun _h => ?_) fun _h => ?_) <;> first | (exfalso; omega) | simp only [decide_eq_false _h] | simp only [(_h : (_ : Bool) = _)] | simp only [decide_eq_true _h] | skip)
                all_goals (refine ⟨(i + 1, c + 1), ?_⟩; dsimp only; exact ⟨⟨by omega, by omega, by omega, by omega⟩, by omega, by omega⟩)
              · rw [if_neg q4] at hC
                repeat' (first | with_reducible refine inw ?_ | simp (disch := omega) only [go_sem, Nat.reduceEqDiff, ↓reduceIte, reduceCtorEq, Nat.reduceAdd, Nat.reduceMul, Int.reduceToNat, List.reduceReplicate, Nat.reduceLeDiff, Nat.reduceLT, Int.reduceLT, Int.reduceLE, Int.reduceEq, q1 q3] | with_reducible refine giv_intro fun _h => ?_ | with_reducible refine alt_intro ?_ fun _h => ?_ | with_reducible refine pickD_nil ?_ | (with_reducible refine brc (fun _h => ?_) fun _h => ?_) <;> first | (exfalso; omega) | simp only [decide_eq_false _h] | simp only [(_h : (_ : Bool) = _)] | simp only [decide_eq_true _h] | skip)
                all_goals (refine ⟨(i + 1, c), ?_⟩; dsimp only; exact ⟨⟨by omega, by omega, by omega, by omega⟩, rfl, by omega⟩)
          · rw [List.drop_eq_nil_of_le (by omega)] at hC
            have hC2 : cntF l = c := hC
            rw [hC2] at hw
            repeat' (first | with_reducible refine inw ?_ | simp (disch := omega) only [go_sem, Nat.reduceEqDiff, ↓reduceIte, reduceCtorEq, Nat.reduceAdd, Nat.reduceMul, Int.reduceToNat, List.reduceReplicate, Nat.reduceLeDiff, Nat.reduceLT, Int.reduceLT, Int.reduceLE, Int.reduceEq] | (with_reducible apply call (c3)); (focus simp (disch := omega) only [go_sem, Nat.reduceEqDiff, ↓reduceIte, reduceCtorEq, Nat.reduceAdd, Nat.reduceMul, Int.reduceToNat, List.reduceReplicate, Nat.reduceLeDiff, Nat.reduceLT, Int.reduceLT, Int.reduceLE, Int.reduceEq] <;> rfl) | (with_reducible apply call (c2)); (focus simp (disch := omega) only [go_sem, Nat.reduceEqDiff, ↓reduceIte, reduceCtorEq, Nat.reduceAdd, Nat.reduceMul, Int.reduceToNat, List.reduceReplicate, Nat.reduceLeDiff, Nat.reduceLT, Int.reduceLT, Int.reduceLE, Int.reduceEq] <;> rfl) | (with_reducible apply call (same_ok x x)); (focus simp (disch := omega) only [go_sem, Nat.reduceEqDiff, ↓reduceIte, reduceCtorEq, Nat.reduceAdd, Nat.reduceMul, Int.reduceToNat, List.reduceReplicate, Nat.reduceLeDiff, Nat.reduceLT, Int.reduceLT, Int.reduceLE, Int.reduceEq] <;> rfl) | (with_reducible apply call (known_ok)); (focus simp (disch := omega) only [go_sem, Nat.reduceEqDiff, ↓reduceIte, reduceCtorEq, Nat.reduceAdd, Nat.reduceMul, Int.reduceToNat, List.reduceReplicate, Nat.reduceLeDiff, Nat.reduceLT, Int.reduceLT, Int.reduceLE, Int.reduceEq] <;> rfl) | with_reducible refine giv_intro fun _h => ?_ | with_reducible refine alt_intro ?_ fun _h => ?_ | with_reducible refine pickD_nil ?_ | (with_reducible refine brc (fun _h => ?_) fun _h => ?_) <;> first | (exfalso; omega) | simp only [decide_eq_false _h] | simp only [(_h : (_ : Bool) = _)] | simp only [decide_eq_true _h] | skip)
            rename_i w
            rw [hw (by omega)] at w; cases w
        · rw [show hangT hs l = ([], valE l) by rw [hangT, if_neg (by omega), if_pos f2]] at c1
          dsimp only at c1
          (refine fn_look s4_ok (by simp) (by intro k; simp only [go_sem, Nat.reduceEqDiff, ↓reduceIte, reduceCtorEq, Nat.reduceAdd, Nat.reduceMul, Int.reduceToNat, List.reduceReplicate, Nat.reduceLeDiff, Nat.reduceLT, Int.reduceLT, Int.reduceLE, Int.reduceEq]) fun S hS => cwp_sound _ _ _ _ ?_; simp (disch := omega) only [s4, go_sem, Nat.reduceEqDiff, ↓reduceIte, reduceCtorEq, Nat.reduceAdd, Nat.reduceMul, Int.reduceToNat, List.reduceReplicate, Nat.reduceLeDiff, Nat.reduceLT, Int.reduceLT, Int.reduceLE, Int.reduceEq])
          repeat' (first | with_reducible refine inw ?_ | simp (disch := omega) only [go_sem, Nat.reduceEqDiff, ↓reduceIte, reduceCtorEq, Nat.reduceAdd, Nat.reduceMul, Int.reduceToNat, List.reduceReplicate, Nat.reduceLeDiff, Nat.reduceLT, Int.reduceLT, Int.reduceLE, Int.reduceEq] | (with_reducible apply call (k0)); (focus simp (disch := omega) only [go_sem, Nat.reduceEqDiff, ↓reduceIte, reduceCtorEq, Nat.reduceAdd, Nat.reduceMul, Int.reduceToNat, List.reduceReplicate, Nat.reduceLeDiff, Nat.reduceLT, Int.reduceLT, Int.reduceLE, Int.reduceEq] <;> rfl) | (with_reducible apply call (kh)); (focus simp (disch := omega) only [go_sem, Nat.reduceEqDiff, ↓reduceIte, reduceCtorEq, Nat.reduceAdd, Nat.reduceMul, Int.reduceToNat, List.reduceReplicate, Nat.reduceLeDiff, Nat.reduceLT, Int.reduceLT, Int.reduceLE, Int.reduceEq] <;> rfl) | (with_reducible apply call (c1)); (focus simp (disch := omega) only [go_sem, Nat.reduceEqDiff, ↓reduceIte, reduceCtorEq, Nat.reduceAdd, Nat.reduceMul, Int.reduceToNat, List.reduceReplicate, Nat.reduceLeDiff, Nat.reduceLT, Int.reduceLT, Int.reduceLE, Int.reduceEq] <;> rfl) | (with_reducible apply call (known_ok)); (focus simp (disch := omega) only [go_sem, Nat.reduceEqDiff, ↓reduceIte, reduceCtorEq, Nat.reduceAdd, Nat.reduceMul, Int.reduceToNat, List.reduceReplicate, Nat.reduceLeDiff, Nat.reduceLT, Int.reduceLT, Int.reduceLE, Int.reduceEq] <;> rfl) | with_reducible refine giv_intro fun _h => ?_ | with_reducible refine alt_intro ?_ fun _h => ?_ | with_reducible refine pickD_nil ?_ | (with_reducible refine brc (fun _h => ?_) fun _h => ?_) <;> first | (exfalso; omega) | simp only [decide_eq_false _h] | simp only [(_h : (_ : Bool) = _)] | simp only [decide_eq_true _h] | skip)
      · rw [show hangT hs l = ([], formK hs) by rw [hangT, if_pos f1]] at c1
        dsimp only at c1
        (refine fn_look s4_ok (by simp) (by intro k; simp only [go_sem, Nat.reduceEqDiff, ↓reduceIte, reduceCtorEq, Nat.reduceAdd, Nat.reduceMul, Int.reduceToNat, List.reduceReplicate, Nat.reduceLeDiff, Nat.reduceLT, Int.reduceLT, Int.reduceLE, Int.reduceEq]) fun S hS => cwp_sound _ _ _ _ ?_; simp (disch := omega) only [s4, go_sem, Nat.reduceEqDiff, ↓reduceIte, reduceCtorEq, Nat.reduceAdd, Nat.reduceMul, Int.reduceToNat, List.reduceReplicate, Nat.reduceLeDiff, Nat.reduceLT, Int.reduceLT, Int.reduceLE, Int.reduceEq])
        repeat' (first | with_reducible refine inw ?_ | simp (disch := omega) only [go_sem, Nat.reduceEqDiff, ↓reduceIte, reduceCtorEq, Nat.reduceAdd, Nat.reduceMul, Int.reduceToNat, List.reduceReplicate, Nat.reduceLeDiff, Nat.reduceLT, Int.reduceLT, Int.reduceLE, Int.reduceEq] | (with_reducible apply call (k0)); (focus simp (disch := omega) only [go_sem, Nat.reduceEqDiff, ↓reduceIte, reduceCtorEq, Nat.reduceAdd, Nat.reduceMul, Int.reduceToNat, List.reduceReplicate, Nat.reduceLeDiff, Nat.reduceLT, Int.reduceLT, Int.reduceLE, Int.reduceEq] <;> rfl) | (with_reducible apply call (kh)); (focus simp (disch := omega) only [go_sem, Nat.reduceEqDiff, ↓reduceIte, reduceCtorEq, Nat.reduceAdd, Nat.reduceMul, Int.reduceToNat, List.reduceReplicate, Nat.reduceLeDiff, Nat.reduceLT, Int.reduceLT, Int.reduceLE, Int.reduceEq] <;> rfl) | (with_reducible apply call (c1)); (focus simp (disch := omega) only [go_sem, Nat.reduceEqDiff, ↓reduceIte, reduceCtorEq, Nat.reduceAdd, Nat.reduceMul, Int.reduceToNat, List.reduceReplicate, Nat.reduceLeDiff, Nat.reduceLT, Int.reduceLT, Int.reduceLE, Int.reduceEq] <;> rfl) | (with_reducible apply call (known_ok)); (focus simp (disch := omega) only [go_sem, Nat.reduceEqDiff, ↓reduceIte, reduceCtorEq, Nat.reduceAdd, Nat.reduceMul, Int.reduceToNat, List.reduceReplicate, Nat.reduceLeDiff, Nat.reduceLT, Int.reduceLT, Int.reduceLE, Int.reduceEq] <;> rfl) | with_reducible refine giv_intro fun _h => ?_ | with_reducible refine alt_intro ?_ fun _h => ?_ | with_reducible refine pickD_nil ?_ | (with_reducible refine brc (fun _h => ?_) fun _h => ?_) <;> first | (exfalso; omega) | simp only [decide_eq_false _h] | simp only [(_h : (_ : Bool) = _)] | simp only [decide_eq_true _h] | skip)
    · (refine fn_look s4_ok (by simp) (by intro k; simp only [go_sem, Nat.reduceEqDiff, ↓reduceIte, reduceCtorEq, Nat.reduceAdd, Nat.reduceMul, Int.reduceToNat, List.reduceReplicate, Nat.reduceLeDiff, Nat.reduceLT, Int.reduceLT, Int.reduceLE, Int.reduceEq]) fun S hS => cwp_sound _ _ _ _ ?_; simp (disch := omega) only [s4, go_sem, Nat.reduceEqDiff, ↓reduceIte, reduceCtorEq, Nat.reduceAdd, Nat.reduceMul, Int.reduceToNat, List.reduceReplicate, Nat.reduceLeDiff, Nat.reduceLT, Int.reduceLT, Int.reduceLE, Int.reduceEq])
      repeat' (first | with_reducible refine inw ?_ | simp (disch := omega) only [go_sem, Nat.reduceEqDiff, ↓reduceIte, reduceCtorEq, Nat.reduceAdd, Nat.reduceMul, Int.reduceToNat, List.reduceReplicate, Nat.reduceLeDiff, Nat.reduceLT, Int.reduceLT, Int.reduceLE, Int.reduceEq] | (with_reducible apply call (k0)); (focus simp (disch := omega) only [go_sem, Nat.reduceEqDiff, ↓reduceIte, reduceCtorEq, Nat.reduceAdd, Nat.reduceMul, Int.reduceToNat, List.reduceReplicate, Nat.reduceLeDiff, Nat.reduceLT, Int.reduceLT, Int.reduceLE, Int.reduceEq] <;> rfl) | (with_reducible apply call (kh)); (focus simp (disch := omega) only [go_sem, Nat.reduceEqDiff, ↓reduceIte, reduceCtorEq, Nat.reduceAdd, Nat.reduceMul, Int.reduceToNat, List.reduceReplicate, Nat.reduceLeDiff, Nat.reduceLT, Int.reduceLT, Int.reduceLE, Int.reduceEq] <;> rfl) | (with_reducible apply call (known_ok)); (focus simp (disch := omega) only [go_sem, Nat.reduceEqDiff, ↓reduceIte, reduceCtorEq, Nat.reduceAdd, Nat.reduceMul, Int.reduceToNat, List.reduceReplicate, Nat.reduceLeDiff, Nat.reduceLT, Int.reduceLT, Int.reduceLE, Int.reduceEq] <;> rfl) | with_reducible refine giv_intro fun _h => ?_ | with_reducible refine alt_intro ?_ fun _h => ?_ | with_reducible refine pickD_nil ?_ | (with_reducible refine brc (fun _h => ?_) fun _h => ?_) <;> first | (exfalso; omega) | simp only [decide_eq_false _h] | simp only [(_h : (_ : Bool) = _)] | simp only [decide_eq_true _h] | skip)
  · have k0 := over_ok l
    rw [show overB l = true by simpa using h1] at k0
    (refine fn_look s4_ok (by simp) (by intro k; simp only [go_sem, Nat.reduceEqDiff, ↓reduceIte, reduceCtorEq, Nat.reduceAdd, Nat.reduceMul, Int.reduceToNat, List.reduceReplicate, Nat.reduceLeDiff, Nat.reduceLT, Int.reduceLT, Int.reduceLE, Int.reduceEq]) fun S hS => cwp_sound _ _ _ _ ?_; simp (disch := omega) only [s4, go_sem, Nat.reduceEqDiff, ↓reduceIte, reduceCtorEq, Nat.reduceAdd, Nat.reduceMul, Int.reduceToNat, List.reduceReplicate, Nat.reduceLeDiff, Nat.reduceLT, Int.reduceLT, Int.reduceLE, Int.reduceEq])
    repeat' (first | with_reducible refine inw ?_ | simp (disch := omega) only [go_sem, Nat.reduceEqDiff, ↓reduceIte, reduceCtorEq, Nat.reduceAdd, Nat.reduceMul, Int.reduceToNat, List.reduceReplicate, Nat.reduceLeDiff, Nat.reduceLT, Int.reduceLT, Int.reduceLE, Int.reduceEq] | (with_reducible apply call (k0)); (focus simp (disch := omega) only [go_sem, Nat.reduceEqDiff, ↓reduceIte, reduceCtorEq, Nat.reduceAdd, Nat.reduceMul, Int.reduceToNat, List.reduceReplicate, Nat.reduceLeDiff, Nat.reduceLT, Int.reduceLT, Int.reduceLE, Int.reduceEq] <;> rfl) | (with_reducible apply call (kh)); (focus simp (disch := omega) only [go_sem, Nat.reduceEqDiff, ↓reduceIte, reduceCtorEq, Nat.reduceAdd, Nat.reduceMul, Int.reduceToNat, List.reduceReplicate, Nat.reduceLeDiff, Nat.reduceLT, Int.reduceLT, Int.reduceLE, Int.reduceEq] <;> rfl) | (with_reducible apply call (known_ok)); (focus simp (disch := omega) only [go_sem, Nat.reduceEqDiff, ↓reduceIte, reduceCtorEq, Nat.reduceAdd, Nat.reduceMul, Int.reduceToNat, List.reduceReplicate, Nat.reduceLeDiff, Nat.reduceLT, Int.reduceLT, Int.reduceLE, Int.reduceEq] <;> rfl) | with_reducible refine giv_intro fun _h => ?_ | with_reducible refine alt_intro ?_ fun _h => ?_ | with_reducible refine pickD_nil ?_ | (with_reducible refine brc (fun _h => ?_) fun _h => ?_) <;> first | (exfalso; omega) | simp only [decide_eq_false _h] | simp only [(_h : (_ : Bool) = _)] | simp only [decide_eq_true _h] | skip)
theorem tk_of {l : List Hook} (h : l.length * Try.prog.bytesOf 57 ≤ 140737488351232 ∧ ∀ a ∈ l, (a.1.length * Try.prog.bytesOf 9 ≤ 140737488351232 ∧ ∀ s ∈ a.1, s.size ≤ 140737488351232) ∧ (a.2.1.length * Try.prog.bytesOf 9 ≤ 140737488351232 ∧ ∀ s ∈ a.2.1, s.size ≤ 140737488351232) ∧ (a.2.2.1.length * Try.prog.bytesOf 9 ≤ 140737488351232 ∧ ∀ s ∈ a.2.2.1, s.size ≤ 140737488351232) ∧ (-9223372036854775808 ≤ a.2.2.2.1 ∧ a.2.2.2.1 ≤ 9223372036854775807) ∧ (-9223372036854775808 ≤ a.2.2.2.2.1 ∧ a.2.2.2.2.1 ≤ 9223372036854775807) ∧ a.2.2.2.2.2.size ≤ 140737488351232) : TK l := by
  have e : Try.prog.bytesOf 57 = 104 := by kernel_rfl
  rw [e] at h
  exact ⟨by omega, fun a ha => ⟨ts_of (h.2 a ha).1, ts_of (h.2 a ha).2.1, ts_of (h.2 a ha).2.2.1, (h.2 a ha).2.2.2.2.2⟩⟩
end Go.Proofs.Ytkedbkdbnmmkhaa.Ev

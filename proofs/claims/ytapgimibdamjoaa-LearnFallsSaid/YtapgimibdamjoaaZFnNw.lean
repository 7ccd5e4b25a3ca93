/- Learn, both programs; the law LearnLearns. -/
import Derived.Test.YtapgimibdamjoaaZFnNv
set_option linter.unusedVariables false
set_option linter.unusedSimpArgs false
namespace Go.Proofs.Ytapgimibdamjoaa.Ev
open Go Go.Proofs Go.RowKit

theorem cat_ch (l : List Change) (a b d : Str) (i : Int) : cellsL l ++ [strA a, strA b, intA i, strA d] = cellsL (l ++ [(a, b, i, d)]) := by
  rw [← cellsL_app]; rfl
theorem zc_zero (zs : List Value) : zcells zs 0 = [] := rfl
theorem src_4 (S : St) (x y z w : AV) : srcOf S 4 (.ro 1 [x, y, z, w]) = some (1, [x, y, z, w]) := by simp [srcOf]
/-- slices.Clone[[]ablaut/api.Lesson,ablaut/api.Lesson]: 1 parameters, 0 captured -/
def s73 : SC := .seq (.reg [o1 2 (.mv (.c (.slice none 0 0)))])
  (.seq (.seq (.reg [o1 3 (.mv (.t 0)),
     o1 4 (.eq false .slice (.t 3) (.c (.slice none 0 0)))])
    (.cond (.t 4) (.seq (.reg [o1 2 (.mv (.c (.slice none 0 0)))])
      (.ret)) (.skip)))
   (.seq (.reg [o1 5 (.buildSl 56 3 0 [(.slice none 0 0), (.slice none 0 0), (.slice none 0 0)] []),
     o1 6 (.mv (.t 0)),
     o1 7 (.app 56 3 72 (.t 5) (.t 6)),
     o1 2 (.mv (.t 7))])
    (.ret)))
theorem s73_ok : lookF Try.prog 73 = some (s73, 8, [.tmp 2]) := by kernel_rfl
theorem cloneX_nil : Fn P 73 [sl ([] : List Lesson)] (sl ([] : List Lesson)) := by
  (refine fn_look s73_ok (by simp) (by intro k; simp only [go_sem, Nat.reduceEqDiff, ↓reduceIte, reduceCtorEq, Nat.reduceAdd, Nat.reduceMul, Int.reduceToNat, List.reduceReplicate, Nat.reduceLeDiff, Nat.reduceLT, Int.reduceLT, Int.reduceLE, Int.reduceEq]) fun S hS => cwp_sound _ _ _ _ ?_; simp (maxSteps := 900000) (disch := omega) only [s73, go_sem, Nat.reduceEqDiff, ↓reduceIte, reduceCtorEq, Nat.reduceAdd, Nat.reduceMul, Int.reduceToNat, List.reduceReplicate, Nat.reduceLeDiff, Nat.reduceLT, Int.reduceLT, Int.reduceLE, Int.reduceEq])
  repeat' (first | with_reducible refine inw ?_ | simp (maxSteps := 900000) (disch := omega) only [go_sem, Nat.reduceEqDiff, ↓reduceIte, reduceCtorEq, Nat.reduceAdd, Nat.reduceMul, Int.reduceToNat, List.reduceReplicate, Nat.reduceLeDiff, Nat.reduceLT, Int.reduceLT, Int.reduceLE, Int.reduceEq, zc_zero] | with_reducible refine giv_intro fun _h => ?_ | with_reducible refine alt_intro ?_ fun _h => ?_ | with_reducible refine pickD_nil ?_ | (with_reducible refine brc (fun _h => ?_) fun _h => ?_) <;> first | (exfalso; omega) | simp only [decide_eq_false _h] | simp only [(_h : (_ : Bool) = _)] | simp only [decide_eq_true _h] | skip)
  all_goals rfl
theorem cloneX_ok (l : List Lesson) (h0 : 0 < l.length) (hl : l.length ≤ 200) : FnS P 73 [sl l] (fun S L r => L = [rowO 56 l] ∧ r = own S 0 l) := by
  (refine fnS_look s73_ok (by simp) fun S hS => cwp_sound _ _ _ _ ?_; simp (maxSteps := 900000) (disch := omega) only [s73, go_sem, Nat.reduceEqDiff, ↓reduceIte, reduceCtorEq, Nat.reduceAdd, Nat.reduceMul, Int.reduceToNat, List.reduceReplicate, Nat.reduceLeDiff, Nat.reduceLT, Int.reduceLT, Int.reduceLE, Int.reduceEq])
  repeat' (first | with_reducible refine inw ?_ | simp (maxSteps := 900000) (disch := omega) only [go_sem, Nat.reduceEqDiff, ↓reduceIte, reduceCtorEq, Nat.reduceAdd, Nat.reduceMul, Int.reduceToNat, List.reduceReplicate, Nat.reduceLeDiff, Nat.reduceLT, Int.reduceLT, Int.reduceLE, Int.reduceEq, zc_zero] | with_reducible refine giv_intro fun _h => ?_ | with_reducible refine alt_intro ?_ fun _h => ?_ | with_reducible refine pickD_nil ?_ | (with_reducible refine brc (fun _h => ?_) fun _h => ?_) <;> first | (exfalso; omega) | simp only [decide_eq_false _h] | simp only [(_h : (_ : Bool) = _)] | simp only [decide_eq_true _h] | skip)
  all_goals first | (exfalso; omega) | (simp [own]; done)
/-- ablaut/learn.changed: 2 parameters, 0 captured -/
def s52 : SC := .seq (.reg [o1 2 (.box 32 4 (.t 0)),
   o1 4 (.mv (.c (.slice none 0 0)))])
  (.seq (.reg [o1 8 (.mv (.t 1)),
    o1 9 (.call (.f 73) [(.t 8)]),
    o1 5 (.mv (.t 9))])
   (.seq (.seq (.reg [o1 10 (.mv (.t 5)),
      o1 11 (.lenL (.t 10)),
      o1 12 (.mv (cI 0))])
     (.block 0 (.loop (.seq (.reg [o1 13 (.bin .lss (.t 12) (.t 11))])
        (.seq (.cond (.t 13) (.skip) (.exit 0))
         (.seq (.block 1 (.seq (.reg [o1 14 (.mv (.t 12)),
             o1 15 (.iaddr 3 (.t 10) (.t 12)),
             o1 16 (.load (some 3) (.t 15)),
             o1 7 (.alloc 56 3 [(.slice none 0 0), (.slice none 0 0), (.slice none 0 0)]),
             o1 6 (.mv (.t 14)),
             o0 (.store 3 (.t 7) (.t 16))])
            (.reg [o1 17 (.mv (.t 5)),
             o1 18 (.mv (.t 6)),
             o1 19 (.load (some 4) (.t 2)),
             o1 20 (.faddr 0 (.t 7)),
             o1 21 (.load none (.t 20)),
             o1 22 (.faddr 1 (.t 7)),
             o1 23 (.load none (.t 22)),
             o1 24 (.call (.f 74) [(.t 19), (.t 21), (.t 23)]),
             o1 25 (.iaddr 3 (.t 17) (.t 18)),
             o1 26 (.faddr 1 (.t 25)),
             o0 (.store 1 (.t 26) (.t 24))])))
          (.reg [o1 27 (.bin .add (.t 12) (cI 1)),
           o1 12 (.mv (.t 27))])))))))
    (.seq (.reg [o1 28 (.mv (.t 5)),
      o1 4 (.mv (.t 28))])
     (.ret))))
theorem s52_ok : lookF Try.prog 52 = some (s52, 29, [.tmp 4]) := by kernel_rfl
theorem changed_ok (c : Change) (ls : List Lesson) (h : OkLs ls) (hk : KdC c) : Fn P 52 [chA c, sl ls] (sl (chgL c ls)) := by
  have hls := h.1
  rcases Nat.eq_zero_or_pos ls.length with h0 | h0
  · obtain rfl := List.eq_nil_of_length_eq_zero h0
    (refine fn_look s52_ok (by simp) (by intro k; simp only [go_sem, Nat.reduceEqDiff, ↓reduceIte, reduceCtorEq, Nat.reduceAdd, Nat.reduceMul, Int.reduceToNat, List.reduceReplicate, Nat.reduceLeDiff, Nat.reduceLT, Int.reduceLT, Int.reduceLE, Int.reduceEq]) fun S hS => cwp_sound _ _ _ _ ?_; simp (maxSteps := 900000) (disch := omega) only [s52, go_sem, Nat.reduceEqDiff, ↓reduceIte, reduceCtorEq, Nat.reduceAdd, Nat.reduceMul, Int.reduceToNat, List.reduceReplicate, Nat.reduceLeDiff, Nat.reduceLT, Int.reduceLT, Int.reduceLE, Int.reduceEq])
    repeat' (first | with_reducible refine inw ?_ | simp (maxSteps := 900000) (disch := omega) only [go_sem, Nat.reduceEqDiff, ↓reduceIte, reduceCtorEq, Nat.reduceAdd, Nat.reduceMul, Int.reduceToNat, List.reduceReplicate, Nat.reduceLeDiff, Nat.reduceLT, Int.reduceLT, Int.reduceLE, Int.reduceEq] | (with_reducible apply call (cloneX_nil)); (focus simp (maxSteps := 900000) (disch := omega) only [go_sem, Nat.reduceEqDiff, ↓reduceIte, reduceCtorEq, Nat.reduceAdd, Nat.reduceMul, Int.reduceToNat, List.reduceReplicate, Nat.reduceLeDiff, Nat.reduceLT, Int.reduceLT, Int.reduceLE, Int.reduceEq] <;> rfl) | with_reducible refine giv_intro fun _h => ?_ | with_reducible refine alt_intro ?_ fun _h => ?_ | with_reducible refine pickD_nil ?_ | (with_reducible refine brc (fun _h => ?_) fun _h => ?_) <;> first | (exfalso; omega) | simp only [decide_eq_false _h] | simp only [(_h : (_ : Bool) = _)] | simp only [decide_eq_true _h] | skip)
    (refine loopC hS [2, 5, 10, 11] (by simp only [go_sem, Nat.reduceEqDiff, ↓reduceIte, reduceCtorEq, Nat.reduceAdd, Nat.reduceMul, Int.reduceToNat, List.reduceReplicate, Nat.reduceLeDiff, Nat.reduceLT, Int.reduceLT, Int.reduceLE, Int.reduceEq]; try rfl) (fun (i : Nat) => [(12, intA 0)]) (fun (i : Nat) => [none]) (fun (i : Nat) => True) (fun (i : Nat) => 0) (0) ?h01 ?hn1 ?rd1; case hn1 => (intro s; first | rfl | (rcases s with ⟨_, _⟩; rfl) | (rcases s with ⟨_, _, _⟩; rfl) | (rcases s with ⟨_, _, _, _⟩; rfl) | (rcases s with ⟨_, _, _, _, _⟩; rfl)))
    · simp (maxSteps := 900000) (disch := omega) only [go_sem, Nat.reduceEqDiff, ↓reduceIte, reduceCtorEq, Nat.reduceAdd, Nat.reduceMul, Int.reduceToNat, List.reduceReplicate, Nat.reduceLeDiff, Nat.reduceLT, Int.reduceLT, Int.reduceLE, Int.reduceEq]
    rintro i _
    repeat' (first | with_reducible refine inw ?_ | simp (maxSteps := 900000) (disch := omega) only [go_sem, Nat.reduceEqDiff, ↓reduceIte, reduceCtorEq, Nat.reduceAdd, Nat.reduceMul, Int.reduceToNat, List.reduceReplicate, Nat.reduceLeDiff, Nat.reduceLT, Int.reduceLT, Int.reduceLE, Int.reduceEq] | with_reducible refine giv_intro fun _h => ?_ | with_reducible refine alt_intro ?_ fun _h => ?_ | with_reducible refine pickD_nil ?_ | (with_reducible refine brc (fun _h => ?_) fun _h => ?_) <;> first | (exfalso; omega) | simp only [decide_eq_false _h] | simp only [(_h : (_ : Bool) = _)] | simp only [decide_eq_true _h] | skip)
    rfl
  · (refine fn_look s52_ok (by simp) (by intro k; simp only [go_sem, Nat.reduceEqDiff, ↓reduceIte, reduceCtorEq, Nat.reduceAdd, Nat.reduceMul, Int.reduceToNat, List.reduceReplicate, Nat.reduceLeDiff, Nat.reduceLT, Int.reduceLT, Int.reduceLE, Int.reduceEq]) fun S hS => cwp_sound _ _ _ _ ?_; simp (maxSteps := 900000) (disch := omega) only [s52, go_sem, Nat.reduceEqDiff, ↓reduceIte, reduceCtorEq, Nat.reduceAdd, Nat.reduceMul, Int.reduceToNat, List.reduceReplicate, Nat.reduceLeDiff, Nat.reduceLT, Int.reduceLT, Int.reduceLE, Int.reduceEq])
    repeat' (first | with_reducible refine inw ?_ | simp (maxSteps := 900000) (disch := omega) only [go_sem, Nat.reduceEqDiff, ↓reduceIte, reduceCtorEq, Nat.reduceAdd, Nat.reduceMul, Int.reduceToNat, List.reduceReplicate, Nat.reduceLeDiff, Nat.reduceLT, Int.reduceLT, Int.reduceLE, Int.reduceEq] | with_reducible refine giv_intro fun _h => ?_ | with_reducible refine alt_intro ?_ fun _h => ?_ | with_reducible refine pickD_nil ?_ | (with_reducible refine brc (fun _h => ?_) fun _h => ?_) <;> first | (exfalso; omega) | simp only [decide_eq_false _h] | simp only [(_h : (_ : Bool) = _)] | simp only [decide_eq_true _h] | skip)
    refine callN (cloneX_ok ls h0 hls) rfl ?_
    rintro L' r ⟨rfl, rfl⟩
    simp only [own, nm_stk, List.nil_append, List.length_nil, Nat.zero_add]
    repeat' (first | with_reducible refine inw ?_ | simp (maxSteps := 900000) (disch := omega) only [go_sem, Nat.reduceEqDiff, ↓reduceIte, reduceCtorEq, Nat.reduceAdd, Nat.reduceMul, Int.reduceToNat, List.reduceReplicate, Nat.reduceLeDiff, Nat.reduceLT, Int.reduceLT, Int.reduceLE, Int.reduceEq] | with_reducible refine giv_intro fun _h => ?_ | with_reducible refine alt_intro ?_ fun _h => ?_ | with_reducible refine pickD_nil ?_ | (with_reducible refine brc (fun _h => ?_) fun _h => ?_) <;> first | (exfalso; omega) | simp only [decide_eq_false _h] | simp only [(_h : (_ : Bool) = _)] | simp only [decide_eq_true _h] | skip)
    (refine loopC hS [2, 5, 10, 11] (by simp only [go_sem, Nat.reduceEqDiff, ↓reduceIte, reduceCtorEq, Nat.reduceAdd, Nat.reduceMul, Int.reduceToNat, List.reduceReplicate, Nat.reduceLeDiff, Nat.reduceLT, Int.reduceLT, Int.reduceLE, Int.reduceEq]; try rfl) (fun (i : Nat) => [(12, intA i)]) (fun (i : Nat) => [some (Ob.row 32 4 [strA c.1, strA c.2.1, intA c.2.2.1, strA c.2.2.2]), rowO 56 (chgI c ls i)]) (fun (i : Nat) => i ≤ ls.length) (fun (i : Nat) => ls.length - i) (0) ?h02 ?hn2 ?rd2; case hn2 => (intro s; first | rfl | (rcases s with ⟨_, _⟩; rfl) | (rcases s with ⟨_, _, _⟩; rfl) | (rcases s with ⟨_, _, _, _⟩; rfl) | (rcases s with ⟨_, _, _, _, _⟩; rfl)))
    · simp (maxSteps := 900000) (disch := omega) only [go_sem, Nat.reduceEqDiff, ↓reduceIte, reduceCtorEq, Nat.reduceAdd, Nat.reduceMul, Int.reduceToNat, List.reduceReplicate, Nat.reduceLeDiff, Nat.reduceLT, Int.reduceLT, Int.reduceLE, Int.reduceEq]; simp [chgI_0]
    rintro i hi
    replace hi : i ≤ ls.length := hi
    have hl := chgI_len c ls i
    by_cases hil : i < ls.length
    · obtain ⟨g1, g2, g3⟩ := h.2 _ (nth_mem hil)
      have c1 := done_ok c (nth ls i).1 (nth ls i).2.1 (by omega) hk
      have hil2 : i < (chgI c ls i).length := by omega
      have e1 := gl_x hil2
      have e2 := pl_1 hil2 (doneL c (nth ls i).1 (nth ls i).2.1)
      have e3 := chgI_put (c := c) hil
      rw [chgI_nth hil] at e1 e2
      rw [chgX] at e3
      rw [e3] at e2
      repeat' (first | with_reducible refine inw ?_ | simp (maxSteps := 900000) (disch := omega) only [go_sem, Nat.reduceEqDiff, ↓reduceIte, reduceCtorEq, Nat.reduceAdd, Nat.reduceMul, Int.reduceToNat, List.reduceReplicate, Nat.reduceLeDiff, Nat.reduceLT, Int.reduceLT, Int.reduceLE, Int.reduceEq, e1, e2] | (with_reducible apply call (c1)); (focus simp (maxSteps := 900000) (disch := omega) only [go_sem, Nat.reduceEqDiff, ↓reduceIte, reduceCtorEq, Nat.reduceAdd, Nat.reduceMul, Int.reduceToNat, List.reduceReplicate, Nat.reduceLeDiff, Nat.reduceLT, Int.reduceLT, Int.reduceLE, Int.reduceEq, e1, e2] <;> rfl) | with_reducible refine giv_intro fun _h => ?_ | with_reducible refine alt_intro ?_ fun _h => ?_ | with_reducible refine pickD_nil ?_ | (with_reducible refine brc (fun _h => ?_) fun _h => ?_) <;> first | (exfalso; omega) | simp only [decide_eq_false _h] | simp only [(_h : (_ : Bool) = _)] | simp only [decide_eq_true _h] | skip)
      exact ⟨i + 1, ⟨by omega, by omega⟩, by omega, rfl⟩
    · have : i = ls.length := by omega
      subst this
      repeat' (first | with_reducible refine inw ?_ | simp (maxSteps := 900000) (disch := omega) only [go_sem, Nat.reduceEqDiff, ↓reduceIte, reduceCtorEq, Nat.reduceAdd, Nat.reduceMul, Int.reduceToNat, List.reduceReplicate, Nat.reduceLeDiff, Nat.reduceLT, Int.reduceLT, Int.reduceLE, Int.reduceEq] | with_reducible refine giv_intro fun _h => ?_ | with_reducible refine alt_intro ?_ fun _h => ?_ | with_reducible refine pickD_nil ?_ | (with_reducible refine brc (fun _h => ?_) fun _h => ?_) <;> first | (exfalso; omega) | simp only [decide_eq_false _h] | simp only [(_h : (_ : Bool) = _)] | simp only [decide_eq_true _h] | skip)
      rw [chgI_all]
/-- ablaut/learn.Learn: 3 parameters, 0 captured -/
def s24 : SC := .seq (.reg [o1 6 (.mv (.c (.slice none 0 0))),
   o1 7 (.mv (cI 0))])
  (.seq (.seq (.reg [o1 12 (.mv (.t 0)),
     o1 13 (.call (.f 15) [(.t 12)]),
     o1 8 (.mv (.t 13))])
    (.seq (.reg [o1 14 (.mv (.t 8)),
      o1 15 (.bin .neq (.t 14) (cI 0))])
     (.cond (.t 15) (.seq (.reg [o1 16 (.mv (.t 8)),
        o1 6 (.mv (.c (.slice none 0 0))),
        o1 7 (.mv (.t 16))])
       (.ret)) (.skip))))
   (.seq (.seq (.reg [o1 17 (.mv (.t 1)),
      o1 18 (.bin .lss (.t 17) (cI 1)),
      o1 19 (.mv (.t 18)),
      oF 20 (.mv (.t 2)) 19,
      oF 21 (.bin .lss (.t 20) (cI 1)) 19,
      o1 22 (.pick (.t 19) (cB true) (.t 21)),
      o1 23 (.mv (.t 22)),
      oF 24 (.mv (.t 2)) 23,
      oF 25 (.bin .gtr (.t 24) (cI 24)) 23,
      o1 26 (.pick (.t 23) (cB true) (.t 25))])
     (.cond (.t 26) (.seq (.reg [o1 6 (.mv (.c (.slice none 0 0))),
        o1 7 (.mv (cI 1))])
       (.ret)) (.skip)))
    (.seq (.reg [o1 9 (.mv (.c (.slice none 0 0)))])
     (.seq (.block 0 (.loop (.seq (.seq (.reg [o1 27 (.mv (.t 9)),
           o1 28 (.lenL (.t 27)),
           o1 29 (.mv (.t 2)),
           o1 30 (.bin .lss (.t 28) (.t 29))])
          (.cond (.t 30) (.skip) (.exit 0)))
         (.block 1 (.seq (.reg [o1 32 (.mv (.t 0)),
            o1 33 (.call (.f 46) [(.t 32)]),
            o1 31 (.mv (.t 33)),
            o1 34 (.ext (.t 31) 0),
            o1 35 (.ext (.t 31) 1),
            o1 10 (.alloc 32 4 [(.string ⟨#[]⟩), (.string ⟨#[]⟩), (.int .i64 0), (.string ⟨#[]⟩)]),
            o0 (.store 4 (.t 10) (.t 34)),
            o1 11 (.mv (.t 35))])
           (.seq (.seq (.reg [o1 36 (.mv (.t 11)),
              o1 37 (.mv (.t 1)),
              o1 38 (.bin .lss (.t 36) (.t 37))])
             (.cond (.t 38) (.exit 0) (.skip)))
            (.regG [(true, o1 39 (.mv (.t 9))),
             (true, o1 40 (.load (some 4) (.t 10))),
             (true, o1 41 (.buildSl 32 4 1 [(.string ⟨#[]⟩), (.string ⟨#[]⟩), (.int .i64 0), (.string ⟨#[]⟩)] [(0, 4, (.t 40))])),
             (true, o1 43 (.load (some 4) (.t 10))),
             (true, o1 44 (.mv (.t 0))),
             (true, o1 42 (.app 32 4 56 (.t 39) (.t 41))),
             (false, o1 45 (.call (.f 52) [(.t 43), (.t 44)])),
             (false, o1 9 (.mv (.t 42))),
             (false, o1 0 (.mv (.t 45)))])))))))
      (.seq (.reg [o1 46 (.mv (.t 9)),
        o1 6 (.mv (.t 46)),
        o1 7 (.mv (cI 0))])
       (.ret))))))
theorem s24_ok : lookF Try.prog 24 = some (s24, 47, [.tmp 6, .tmp 7]) := by kernel_rfl
set_option maxHeartbeats 2000000 in
theorem Learn_ok (ls : List Lesson) (least most : Int) (hs : SmLs ls) : Fn P 24 [sl ls, intA least, intA most] (clI (learnT ls least most)) := by
  have c2 := validateL_ok ls hs
  by_cases h2 : valL ls = 0
  · rw [h2] at c2
    by_cases h1 : least < 1 ∨ most < 1 ∨ 24 < most
    · rw [learnT, if_neg (by simpa using h2), if_pos h1]
      (refine fn_look s24_ok (by simp) (by intro k; simp only [go_sem, Nat.reduceEqDiff, ↓reduceIte, reduceCtorEq, Nat.reduceAdd, Nat.reduceMul, Int.reduceToNat, List.reduceReplicate, Nat.reduceLeDiff, Nat.reduceLT, Int.reduceLT, Int.reduceLE, Int.reduceEq]) fun S hS => cwp_sound _ _ _ _ ?_; simp (maxSteps := 900000) (disch := omega) only [s24, go_sem, Nat.reduceEqDiff, ↓reduceIte, reduceCtorEq, Nat.reduceAdd, Nat.reduceMul, Int.reduceToNat, List.reduceReplicate, Nat.reduceLeDiff, Nat.reduceLT, Int.reduceLT, Int.reduceLE, Int.reduceEq])
      repeat' (first | with_reducible refine inw ?_ | simp (maxSteps := 900000) (disch := omega) only [go_sem, Nat.reduceEqDiff, ↓reduceIte, reduceCtorEq, Nat.reduceAdd, Nat.reduceMul, Int.reduceToNat, List.reduceReplicate, Nat.reduceLeDiff, Nat.reduceLT, Int.reduceLT, Int.reduceLE, Int.reduceEq] | (with_reducible apply call (c2)); (focus simp (maxSteps := 900000) (disch := omega) only [go_sem, Nat.reduceEqDiff, ↓reduceIte, reduceCtorEq, Nat.reduceAdd, Nat.reduceMul, Int.reduceToNat, List.reduceReplicate, Nat.reduceLeDiff, Nat.reduceLT, Int.reduceLT, Int.reduceLE, Int.reduceEq] <;> rfl) | with_reducible refine giv_intro fun _h => ?_ | with_reducible refine alt_intro ?_ fun _h => ?_ | with_reducible refine pickD_nil ?_ | (with_reducible refine brc (fun _h => ?_) fun _h => ?_) <;> first | (exfalso; omega) | simp only [decide_eq_false _h] | simp only [(_h : (_ : Bool) = _)] | simp only [decide_eq_true _h] | skip)
      all_goals first | rfl | (exfalso; omega)
    · rw [learnT, if_neg (by simpa using h2), if_neg h1]
      (refine fn_look s24_ok (by simp) (by intro k; simp only [go_sem, Nat.reduceEqDiff, ↓reduceIte, reduceCtorEq, Nat.reduceAdd, Nat.reduceMul, Int.reduceToNat, List.reduceReplicate, Nat.reduceLeDiff, Nat.reduceLT, Int.reduceLT, Int.reduceLE, Int.reduceEq]) fun S hS => cwp_sound _ _ _ _ ?_; simp (maxSteps := 900000) (disch := omega) only [s24, go_sem, Nat.reduceEqDiff, ↓reduceIte, reduceCtorEq, Nat.reduceAdd, Nat.reduceMul, Int.reduceToNat, List.reduceReplicate, Nat.reduceLeDiff, Nat.reduceLT, Int.reduceLT, Int.reduceLE, Int.reduceEq])
      repeat' (first | with_reducible refine inw ?_ | simp (maxSteps := 900000) (disch := omega) only [go_sem, Nat.reduceEqDiff, ↓reduceIte, reduceCtorEq, Nat.reduceAdd, Nat.reduceMul, Int.reduceToNat, List.reduceReplicate, Nat.reduceLeDiff, Nat.reduceLT, Int.reduceLT, Int.reduceLE, Int.reduceEq] | (with_reducible apply call (c2)); (focus simp (maxSteps := 900000) (disch := omega) only [go_sem, Nat.reduceEqDiff, ↓reduceIte, reduceCtorEq, Nat.reduceAdd, Nat.reduceMul, Int.reduceToNat, List.reduceReplicate, Nat.reduceLeDiff, Nat.reduceLT, Int.reduceLT, Int.reduceLE, Int.reduceEq] <;> rfl) | with_reducible refine giv_intro fun _h => ?_ | with_reducible refine alt_intro ?_ fun _h => ?_ | with_reducible refine pickD_nil ?_ | (with_reducible refine brc (fun _h => ?_) fun _h => ?_) <;> first | (exfalso; omega) | simp only [decide_eq_false _h] | simp only [(_h : (_ : Bool) = _)] | simp only [decide_eq_true _h] | skip)
      refine nil_row 9 32 4 (by simp (maxSteps := 900000) (disch := omega) only [go_sem, Nat.reduceEqDiff, ↓reduceIte, reduceCtorEq, Nat.reduceAdd, Nat.reduceMul, Int.reduceToNat, List.reduceReplicate, Nat.reduceLeDiff, Nat.reduceLT, Int.reduceLT, Int.reduceLE, Int.reduceEq]) ?_
      (refine loopC hS [1, 2] (by simp only [go_sem, Nat.reduceEqDiff, ↓reduceIte, reduceCtorEq, Nat.reduceAdd, Nat.reduceMul, Int.reduceToNat, List.reduceReplicate, Nat.reduceLeDiff, Nat.reduceLT, Int.reduceLT, Int.reduceLE, Int.reduceEq]; try rfl) (fun (⟨out, now⟩ : List Change × List Lesson) => [(0, sl now), (9, own S 0 out)]) (fun (⟨out, now⟩ : List Change × List Lesson) => [rowO 32 out]) (fun (⟨out, now⟩ : List Change × List Lesson) => out.length ≤ most.toNat ∧ valL now = 0 ∧ SmLs now ∧ learnS least most.toNat ls = out ++ learnS least (most.toNat - out.length) now) (fun (⟨out, now⟩ : List Change × List Lesson) => most.toNat - out.length) (([], ls)) ?h03 ?hn3 ?rd3; case hn3 => (intro s; first | rfl | (rcases s with ⟨_, _⟩; rfl) | (rcases s with ⟨_, _, _⟩; rfl) | (rcases s with ⟨_, _, _, _⟩; rfl) | (rcases s with ⟨_, _, _, _, _⟩; rfl)))
      · simp (maxSteps := 900000) (disch := omega) only [go_sem, Nat.reduceEqDiff, ↓reduceIte, reduceCtorEq, Nat.reduceAdd, Nat.reduceMul, Int.reduceToNat, List.reduceReplicate, Nat.reduceLeDiff, Nat.reduceLT, Int.reduceLT, Int.reduceLE, Int.reduceEq]
        exact ⟨Nat.zero_le _, h2, hs, rfl⟩
      rintro ⟨out, now⟩ ⟨ho, hv, hn, he⟩
      replace ho : out.length ≤ most.toNat := ho
      replace he : learnS least most.toNat ls = out ++ learnS least (most.toNat - out.length) now := he
      have c3 := best0_ok now (okLs hv) (smV_of hn)
      by_cases hb : (bestL now).2 < least
      · have e0 : learnS least most.toNat ls = out := by rw [he, learnS_stop hb, List.append_nil]
        repeat' (first | with_reducible refine inw ?_ | simp (maxSteps := 900000) (disch := omega) only [go_sem, Nat.reduceEqDiff, ↓reduceIte, reduceCtorEq, Nat.reduceAdd, Nat.reduceMul, Int.reduceToNat, List.reduceReplicate, Nat.reduceLeDiff, Nat.reduceLT, Int.reduceLT, Int.reduceLE, Int.reduceEq] | (with_reducible apply call (c3)); (focus simp (maxSteps := 900000) (disch := omega) only [go_sem, Nat.reduceEqDiff, ↓reduceIte, reduceCtorEq, Nat.reduceAdd, Nat.reduceMul, Int.reduceToNat, List.reduceReplicate, Nat.reduceLeDiff, Nat.reduceLT, Int.reduceLT, Int.reduceLE, Int.reduceEq] <;> rfl) | with_reducible refine giv_intro fun _h => ?_ | with_reducible refine alt_intro ?_ fun _h => ?_ | with_reducible refine pickD_nil ?_ | (with_reducible refine brc (fun _h => ?_) fun _h => ?_) <;> first | (exfalso; omega) | simp only [decide_eq_false _h] | simp only [(_h : (_ : Bool) = _)] | simp only [decide_eq_true _h] | skip)
        all_goals rw [e0]
      · obtain ⟨b1, b2, b3, b4, b5, _⟩ := best_ch hv hn (by omega)
        have c4 := changed_ok (bestL now).1 now (okLs hv) b1.kd
        have v1 := val_chg hv hn b3 b5.2.1
        by_cases hm : out.length < most.toNat
        · have e1 : learnS least (most.toNat - out.length) now = (bestL now).1 :: learnS least (most.toNat - (out.length + 1)) (chgL (bestL now).1 now) := by
            rw [show most.toNat - out.length = (most.toNat - (out.length + 1)) + 1 by omega, learnS, if_neg hb]
          repeat' (first | with_reducible refine inw ?_ | simp (maxSteps := 900000) (disch := omega) only [go_sem, Nat.reduceEqDiff, ↓reduceIte, reduceCtorEq, Nat.reduceAdd, Nat.reduceMul, Int.reduceToNat, List.reduceReplicate, Nat.reduceLeDiff, Nat.reduceLT, Int.reduceLT, Int.reduceLE, Int.reduceEq, cat_ch, src_4] | (with_reducible apply call (c3)); (focus simp (maxSteps := 900000) (disch := omega) only [go_sem, Nat.reduceEqDiff, ↓reduceIte, reduceCtorEq, Nat.reduceAdd, Nat.reduceMul, Int.reduceToNat, List.reduceReplicate, Nat.reduceLeDiff, Nat.reduceLT, Int.reduceLT, Int.reduceLE, Int.reduceEq, cat_ch, src_4] <;> rfl) | (with_reducible apply call_D (c4)); (focus simp (maxSteps := 900000) (disch := omega) only [go_sem, Nat.reduceEqDiff, ↓reduceIte, reduceCtorEq, Nat.reduceAdd, Nat.reduceMul, Int.reduceToNat, List.reduceReplicate, Nat.reduceLeDiff, Nat.reduceLT, Int.reduceLT, Int.reduceLE, Int.reduceEq, cat_ch, src_4] <;> rfl) | with_reducible refine pickD_at [(S.nm 0, none)] ?_ | with_reducible refine giv_intro fun _h => ?_ | with_reducible refine alt_intro ?_ fun _h => ?_ | with_reducible refine pickD_nil ?_ | (with_reducible refine brc (fun _h => ?_) fun _h => ?_) <;> first | (exfalso; omega) | simp only [decide_eq_false _h] | simp only [(_h : (_ : Bool) = _)] | simp only [decide_eq_true _h] | skip)
          refine ⟨(out ++ [(bestL now).1], chgL (bestL now).1 now), ⟨?_, ?_, v1.1, v1.2, ?_⟩, ?_⟩
          · simp only [List.length_append, List.length_singleton]; omega
          · simp only [List.length_append, List.length_singleton]; omega
          · simp only [List.length_append, List.length_singleton]
            rw [he, e1, List.append_assoc]; rfl
          · simp only [List.length_append, List.length_singleton]
            simp
        · have e0 : learnS least most.toNat ls = out := by rw [he, show most.toNat - out.length = 0 by omega]; simp [learnS]
          repeat' (first | with_reducible refine inw ?_ | simp (maxSteps := 900000) (disch := omega) only [go_sem, Nat.reduceEqDiff, ↓reduceIte, reduceCtorEq, Nat.reduceAdd, Nat.reduceMul, Int.reduceToNat, List.reduceReplicate, Nat.reduceLeDiff, Nat.reduceLT, Int.reduceLT, Int.reduceLE, Int.reduceEq] | (with_reducible apply call (c3)); (focus simp (maxSteps := 900000) (disch := omega) only [go_sem, Nat.reduceEqDiff, ↓reduceIte, reduceCtorEq, Nat.reduceAdd, Nat.reduceMul, Int.reduceToNat, List.reduceReplicate, Nat.reduceLeDiff, Nat.reduceLT, Int.reduceLT, Int.reduceLE, Int.reduceEq] <;> rfl) | with_reducible refine giv_intro fun _h => ?_ | with_reducible refine alt_intro ?_ fun _h => ?_ | with_reducible refine pickD_nil ?_ | (with_reducible refine brc (fun _h => ?_) fun _h => ?_) <;> first | (exfalso; omega) | simp only [decide_eq_false _h] | simp only [(_h : (_ : Bool) = _)] | simp only [decide_eq_true _h] | skip)
          all_goals rw [e0]
  · rw [learnT, if_pos h2]
    (refine fn_look s24_ok (by simp) (by intro k; simp only [go_sem, Nat.reduceEqDiff, ↓reduceIte, reduceCtorEq, Nat.reduceAdd, Nat.reduceMul, Int.reduceToNat, List.reduceReplicate, Nat.reduceLeDiff, Nat.reduceLT, Int.reduceLT, Int.reduceLE, Int.reduceEq]) fun S hS => cwp_sound _ _ _ _ ?_; simp (maxSteps := 900000) (disch := omega) only [s24, go_sem, Nat.reduceEqDiff, ↓reduceIte, reduceCtorEq, Nat.reduceAdd, Nat.reduceMul, Int.reduceToNat, List.reduceReplicate, Nat.reduceLeDiff, Nat.reduceLT, Int.reduceLT, Int.reduceLE, Int.reduceEq])
    repeat' (first | with_reducible refine inw ?_ | simp (maxSteps := 900000) (disch := omega) only [go_sem, Nat.reduceEqDiff, ↓reduceIte, reduceCtorEq, Nat.reduceAdd, Nat.reduceMul, Int.reduceToNat, List.reduceReplicate, Nat.reduceLeDiff, Nat.reduceLT, Int.reduceLT, Int.reduceLE, Int.reduceEq] | (with_reducible apply call (c2)); (focus simp (maxSteps := 900000) (disch := omega) only [go_sem, Nat.reduceEqDiff, ↓reduceIte, reduceCtorEq, Nat.reduceAdd, Nat.reduceMul, Int.reduceToNat, List.reduceReplicate, Nat.reduceLeDiff, Nat.reduceLT, Int.reduceLT, Int.reduceLE, Int.reduceEq] <;> rfl) | with_reducible refine giv_intro fun _h => ?_ | with_reducible refine alt_intro ?_ fun _h => ?_ | with_reducible refine pickD_nil ?_ | (with_reducible refine brc (fun _h => ?_) fun _h => ?_) <;> first | (exfalso; omega) | simp only [decide_eq_false _h] | simp only [(_h : (_ : Bool) = _)] | simp only [decide_eq_true _h] | skip)
    all_goals first | rfl | (exfalso; omega)
end Go.Proofs.Ytapgimibdamjoaa.Ev

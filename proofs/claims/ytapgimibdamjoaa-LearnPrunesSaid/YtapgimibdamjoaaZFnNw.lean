/- Learn, both programs; the law LearnLearns. -/
import Derived.Test.YtapgimibdamjoaaZFnNv
set_option linter.unusedVariables false
set_option linter.unusedSimpArgs false
namespace Go.Proofs.Ytapgimibdamjoaa.Ev
open Go Go.Proofs Go.RowKit

theorem cat_ch (l : List Change) (a b d : Str) (i : Int) : cellsL l ++ [strA a, strA b, intA i, strA d] = cellsL (l ++ [(a, b, i, d)]) := by
  rw [← cellsL_app]; rfl
theorem zc_zero (zs : List Value) : zcells zs 0 = [] := rfl
theorem src_4 (S : St) (x y z w : AV) : srcOf S 4 (.ro 1 [x, y, z, w]) = some (1, [x, y, z, w]) := by simp [srcOf]
/-- slices.Clone[[]ablaut/api.Lesson,ablaut/api.Lesson]: 1 parameters, 0 captured -/
def s73 : SC := .seq (.reg [o1 2 (.mv (.c (.slice none 0 0)))])
  (.seq (.seq (.reg [o1 3 (.mv (.t 0)),
     o1 4 (.eq false .slice (.t 3) (.c (.slice none 0 0)))])
    (.cond (.t 4) (.seq (.reg [o1 2 (.mv (.c (.slice none 0 0)))])
      (.ret)) (.skip)))
   (.seq (.reg [o1 5 (.buildSl 56 3 0 [(.slice none 0 0), (.slice none 0 0), (.slice none 0 0)] []),
     o1 6 (.mv (.t 0)),
     o1 7 (.app 56 3 72 (.t 5) (.t 6)),
     o1 2 (.mv (.t 7))])
    (.ret)))
theorem s73_ok : lookF Try.prog 73 = some (s73, 8, [.tmp 2]) := by kernel_rfl
theorem cloneX_nil : Fn P 73 [sl ([] : List Lesson)] (sl ([] : List Lesson)) := by
  (refine fn_look s73_ok (by simp) (by intro k; simp only [go_sem, Nat.reduceEqDiff, ↓reduceIte, reduceCtorEq, Nat.reduceAdd, Nat.reduceMul, Int.reduceToNat, List.reduceReplicate, Nat.reduceLeDiff, Nat.reduceLT, Int.reduceLT, Int.reduceLE, Int.reduceEq]) fun S hS => cwp_sound _ _ _ _ ?_; simp (maxSteps := 900000) (disch := omega) only [s73, go_sem, Nat.reduceEqDiff, ↓reduceIte, reduceCtorEq, Nat.reduceAdd, Nat.reduceMul, Int.reduceToNat, List.reduceReplicate, Nat.reduceLeDiff, Nat.reduceLT, Int.reduceLT, Int.reduceLE, Int.reduceEq])
  repeat' (first | with_reducible refine inw ?_ | simp (maxSteps := 900000) (disch := omega) only [go_sem, Nat.reduceEqDiff, ↓reduceIte, reduceCtorEq, Nat.reduceAdd, Nat.reduceMul, Int.reduceToNat, List.reduceReplicate, Nat.reduceLeDiff, Nat.reduceLT, Int.reduceLT, Int.reduceLE, Int.reduceEq, zc_zero] | with_reducible refine giv_intro fun _h => ?_ | with_reducible refine alt_intro ?_ fun _h => ?_ | with_reducible refine pickD_nil ?_ | (with_reducible refine brc (fun _h => ?_) fun _h => ?_) <;> first | (exfalso; omega) | simp only [decide_eq_false _h] | simp only [(_h : (_ : Bool) = _)] | simp only [decide_eq_true _h] | skip)
  all_goals rfl
theorem cloneX_ok (l : List Lesson) (h0 : 0 < l.length) (hl : l.length ≤ 200) : FnS P 73 [sl l] (fun S L r => L = [rowO 56 l] ∧ r = own S 0 l) := by
  (refine fnS_look s73_ok (by simp) fun S hS => cwp_sound _ _ _ _ ?_; simp (maxSteps := 900000) (disch := omega) only [s73, go_sem, Nat.reduceEqDiff, ↓reduceIte, reduceCtorEq, Nat.reduceAdd, Nat.reduceMul, Int.reduceToNat, List.reduceReplicate, Nat.reduceLeDiff, Nat.reduceLT, Int.reduceLT, Int.reduceLE, Int.reduceEq])
  repeat' (first | with_reducible refine inw ?_ | simp (maxSteps := 900000) (disch := omega) only [go_sem, Nat.reduceEqDiff, ↓reduceIte, reduceCtorEq, Nat.reduceAdd, Nat.reduceMul, Int.reduceToNat, List.reduceReplicate, Nat.reduceLeDiff, Nat.reduceLT, Int.reduceLT, Int.reduceLE, Int.reduceEq, zc_zero] | with_reducible refine giv_intro fun _h => ?_ | with_reducible refine alt_intro ?_ fun _h => ?_ | with_reducible refine pickD_nil ?_ | (with_reducible refine brc (fun _h => ?_) fun _h => ?_) <;> first | (exfalso; omega) | simp only [decide_eq_false _h] | simp only [(_h : (_ : Bool) = _)] | simp only [decide_eq_true _h] | skip)
  all_goals first | (exfalso; omega) | (simp [own]; done)
/-- ablaut/learn.changed: 2 parameters, 0 captured -/
def s52 : SC := .seq (.reg [o1 2 (.box 32 4 (.t 0)),
   o1 4 (.mv (.c (.slice none 0 0)))])
  (.seq (.reg [o1 8 (.mv (.t 1)),
    o1 9 (.call (.f 73) [(.t 8)]),
    o1 5 (.mv (.t 9))])
   (.seq (.seq (.reg [o1 10 (.mv (.t 5)),
      o1 11 (.lenL (.t 10)),
      o1 12 (.mv (cI 0))])
     (.block 0 (.loop (.seq (.reg [o1 13 (.bin .lss (.t 12) (.t 11))])
        (.seq (.cond (.t 13) (.skip) (.exit 0))
         (.seq (.block 1 (.seq (.reg [o1 14 (.mv (.t 12)),
             o1 15 (.iaddr 3 (.t 10) (.t 12)),
             o1 16 (.load (some 3) (.t 15)),
             o1 7 (.alloc 56 3 [(.slice none 0 0), (.slice none 0 0), (.slice none 0 0)]),
             o1 6 (.mv (.t 14)),
             o0 (.store 3 (.t 7) (.t 16))])
            (.reg [o1 17 (.mv (.t 5)),
             o1 18 (.mv (.t 6)),
             o1 19 (.load (some 4) (.t 2)),
             o1 20 (.faddr 0 (.t 7)),
             o1 21 (.load none (.t 20)),
             o1 22 (.faddr 1 (.t 7)),
             o1 23 (.load none (.t 22)),
             o1 24 (.call (.f 74) [(.t 19), (.t 21), (.t 23)]),
             o1 25 (.iaddr 3 (.t 17) (.t 18)),
             o1 26 (.faddr 1 (.t 25)),
             o0 (.store 1 (.t 26) (.t 24))])))
          (.reg [o1 27 (.bin .add (.t 12) (cI 1)),
           o1 12 (.mv (.t 27))])))))))
    (.seq (.reg [o1 28 (.mv (.t 5)),
      o1 4 (.mv (.t 28))])
     (.ret))))
theorem s52_ok : lookF Try.prog 52 = some (s52, 29, [.tmp 4]) := by kernel_rfl
theorem changed_ok (c : Change) (ls : List Lesson) (h : OkLs ls) (hk : KdC c) : Fn P 52 [chA c, sl ls] (sl (chgL c ls)) := by
  have hls := h.1
  rcases Nat.eq_zero_or_pos ls.length with h0 | h0
  · obtain rfl := List.eq_nil_of_length_eq_zero h0
    (refine fn_look s52_ok (by simp) (by intro k; simp only [go_sem, Nat.reduceEqDiff, ↓reduceIte, reduceCtorEq, Nat.reduceAdd, Nat.reduceMul, Int.reduceToNat, List.reduceReplicate, Nat.reduceLeDiff, Nat.reduceLT, Int.reduceLT, Int.reduceLE, Int.reduceEq]) fun S hS => cwp_sound _ _ _ _ ?_; simp (maxSteps := 900000) (disch := omega) only [s52, go_sem, Nat.reduceEqDiff, ↓reduceIte, reduceCtorEq, Nat.reduceAdd, Nat.reduceMul, Int.reduceToNat, List.reduceReplicate, Nat.reduceLeDiff, Nat.reduceLT, Int.reduceLT, Int.reduceLE, Int.reduceEq])
    repeat' (first | with_reducible refine inw ?_ | simp (maxSteps := 900000) (disch := omega) only [go_sem, Nat.reduceEqDiff, ↓reduceIte, reduceCtorEq, Nat.reduceAdd, Nat.reduceMul, Int.reduceToNat, List.reduceReplicate, Nat.reduceLeDiff, Nat.reduceLT, Int.reduceLT, Int.reduceLE, Int.reduceEq] | (with_reducible apply call (cloneX_nil)); (focus simp (maxSteps := 900000) (disch := omega) only [go_sem, Nat.reduceEqDiff, ↓reduceIte, reduceCtorEq, Nat.reduceAdd, Nat.reduceMul, Int.reduceToNat, List.reduceReplicate, Nat.reduceLeDiff, Nat.reduceLT, Int.reduceLT, Int.reduceLE, Int.reduceEq] <;> rfl) | with_reducible refine giv_intro fun _h => ?_ | with_reducible refine alt_intro ?_ fun _h => ?_ | with_reducible refine pickD_nil ?_ | (with_reducible refine brc (fun _h => ?_) fun _h => ?_) <;> first | (exfalso; omega) | simp only [decide_eq_false _h] | simp only [(_h : (_ : Bool) = _)] | simp only [decide_eq_true _h] | skip)
    (refine loopC hS [2, 5, 10, 11] (by simp only [go_sem, Nat.reduceEqDiff, ↓reduceIte, reduceCtorEq, Nat.reduceAdd, Nat.reduceMul, Int.reduceToNat, List.reduceReplicate, Nat.reduceLeDiff, Nat.reduceLT, Int.reduceLT, Int.reduceLE, Int.reduceEq]; try rfl) (fun (i : Nat) => [(12, intA 0)]) (fun (i : Nat) => [none]) (fun (i : Nat) => True) (fun (i : Nat) => 0) (0) ?h01 ?hn1 ?rd1; case hn1 => (intro s; first | rfl | (rcases s with ⟨_, _⟩; rfl) | (rcases s with ⟨_, _, _⟩; rfl) | (rcases s with ⟨_, _, _, _⟩; rfl) | (rcases s with ⟨_, _, _, _, _⟩; rfl)))
    · simp (maxSteps := 900000) (disch := omega) only [go_sem, Nat.reduceEqDiff, ↓reduceIte, reduceCtorEq, Nat.reduceAdd, Nat.reduceMul, Int.reduceToNat, List.reduceReplicate, Nat.reduceLeDiff, Nat.reduceLT, Int.reduceLT, Int.reduceLE, Int.reduceEq]
    rintro i _
    repeat' (first | with_reducible refine inw ?_ | simp (maxSteps := 900000) (disch := omega) only [go_sem, Nat.reduceEqDiff, ↓reduceIte, reduceCtorEq, Nat.reduceAdd, Nat.reduceMul, Int.reduceToNat, List.reduceReplicate, Nat.reduceLeDiff, Nat.reduceLT, Int.reduceLT, Int.reduceLE, Int.reduceEq] | with_reducible refine giv_intro fun _h => ?_ | with_reducible refine alt_intro ?_ fun _h => ?_ | with_reducible refine pickD_nil ?_ | (with_reducible refine brc (fun _h => ?_) fun _h => ?_) <;> first | (exfalso; omega) | simp only [decide_eq_false _h] | simp only [(_h : (_ : Bool) = _)] | simp only [decide_eq_true _h] | skip)
    rfl
  · (refine fn_look s52_ok (by simp) (by intro k; simp only [go_sem, Nat.reduceEqDiff, ↓reduceIte, reduceCtorEq, Nat.reduceAdd, Nat.reduceMul, Int.reduceToNat, List.reduceReplicate, Nat.reduceLeDiff, Nat.reduceLT, Int.reduceLT, Int.reduceLE, Int.reduceEq]) fun S hS => cwp_sound _ _ _ _ ?_; simp (maxSteps := 900000) (disch := omega) only [s52, go_sem, Nat.reduceEqDiff, ↓reduceIte, reduceCtorEq, Nat.reduceAdd, Nat.reduceMul, Int.reduceToNat, List.reduceReplicate, Nat.reduceLeDiff, Nat.reduceLT, Int.reduceLT, Int.reduceLE, Int.reduceEq])
    repeat' (first | with_reducible refine inw ?_ | simp (maxSteps := 900000) (disch := omega) only [go_sem, Nat.reduceEqDiff, ↓reduceIte, reduceCtorEq, Nat.reduceAdd, Nat.reduceMul, Int.reduceToNat, List.reduceReplicate, Nat.reduceLeDiff, Nat.reduceLT, Int.reduceLT, Int.reduceLE, Int.reduceEq] | with_reducible refine giv_intro fun _h => ?_ | with_reducible refine alt_intro ?_ fun _h => ?_ | with_reducible refine pickD_nil ?_ | (with_reducible refine brc (fun _h => ?_) fun _h => ?_) <;> first | (exfalso; omega) | simp only [decide_eq_false _h] | simp only [(_h : (_ : Bool) = _)] | simp only [decide_eq_true _h] | skip)
    refine callN (cloneX_ok ls h0 hls) rfl ?_
    rintro L' r ⟨rfl, rfl⟩
    simp only [own, nm_stk, List.nil_append, List.length_nil, Nat.zero_add]
    repeat' (first | with_reducible refine inw ?_ | simp (maxSteps := 900000) (disch := omega) only [go_sem, Nat.reduceEqDiff, ↓reduceIte, reduceCtorEq, Nat.reduceAdd, Nat.reduceMul, Int.reduceToNat, List.reduceReplicate, Nat.reduceLeDiff, Nat.reduceLT, Int.reduceLT, Int.reduceLE, Int.reduceEq] | with_reducible refine giv_intro fun _h => ?_ | with_reducible refine alt_intro ?_ fun _h => ?_ | with_reducible refine pickD_nil ?_ | (with_reducible refine brc (fun _h => ?_) fun _h => ?_) <;> first | (exfalso; omega) | simp only [decide_eq_false _h] | simp only [(_h : (_ : Bool) = _)] | simp only [decide_eq_true _h] | skip)
    (refine loopC hS [2, 5, 10, 11] (by simp only [go_sem, Nat.reduceEqDiff, ↓reduceIte, reduceCtorEq, Nat.reduceAdd, Nat.reduceMul, Int.reduceToNat, List.reduceReplicate, Nat.reduceLeDiff, Nat.reduceLT, Int.reduceLT, Int.reduceLE, Int.reduceEq]; try rfl) (fun (i : Nat) => [(12, intA i)]) (fun (i : Nat) => [some (Ob.row 32 4 [strA c.1, strA c.2.1, intA c.2.2.1, strA c.2.2.2]), rowO 56 (chgI c ls i)]) (fun (i : Nat) => i ≤ ls.length) (fun (i : Nat) => ls.length - i) (0) ?h02 ?hn2 ?rd2; case hn2 => (intro s; first | rfl | (rcases s with ⟨_, _⟩; rfl) | (rcases s with ⟨_, _, _⟩; rfl) | (rcases s with ⟨_, _, _, _⟩; rfl) | (rcases s with ⟨_, _, _, _, _⟩; rfl)))
    · simp (maxSteps := 900000) (disch := omega) only [go_sem, Nat.reduceEqDiff, ↓reduceIte, reduceCtorEq, Nat.reduceAdd, Nat.reduceMul, Int.reduceToNat, List.reduceReplicate, Nat.reduceLeDiff, Nat.reduceLT, Int.reduceLT, Int.reduceLE, Int.reduceEq]; simp [chgI_0]
    rintro i hi
    replace hi : i ≤ ls.length := hi
    have hl := chgI_len c ls i
    by_cases hil : i < ls.length
    · obtain ⟨g1, g2, g3⟩ := h.2 _ (nth_mem hil)
      have c1 := done_ok c (nth ls i).1 (nth ls i).2.1 (by omega) hk
      have hil2 : i < (chgI c ls i).length := by omega
      have e1 := gl_x hil2
      have e2 := pl_1 hil2 (doneL c (nth ls i).1 (nth ls i).2.1)
      have e3 := chgI_put (c := c) hil
      rw [chgI_nth hil] at e1 e2
      rw [chgX] at e3
      rw [e3] at e2
      repeat' (first | with_reducible refine inw ?_ | simp (maxSteps := 900000) (disch := omega) only [go_sem, Nat.reduceEqDiff, ↓reduceIte, reduceCtorEq, Nat.reduceAdd, Nat.reduceMul, Int.reduceToNat, List.reduceReplicate, Nat.reduceLeDiff, Nat.reduceLT, Int.reduceLT, Int.reduceLE, Int.reduceEq, e1, e2] | (with_reducible apply call (c1)); (focus simp (maxSteps := 900000) (disch := omega) only [go_sem, Nat.reduceEqDiff, ↓reduceIte, reduceCtorEq, Nat.reduceAdd, Nat.reduceMul, Int.reduceToNat, List.reduceReplicate, Nat.reduceLeDiff, Nat.reduceLT, Int.reduceLT, Int.reduceLE, Int.reduceEq, e1, e2] <;> rfl) | with_reducible refine giv_intro fun _h => ?_ | with_reducible refine alt_intro ?_ fun _h => ?_ | with_reducible refine pickD_nil ?_ | (with_reducible refine brc (fun _h => ?_) fun _h => ?_) <;> first | (exfalso; omega) | simp only [decide_eq_false _h] | simp only [(_h : (_ : Bool) = _)] | simp only [decide_eq_true _h] | skip)
      exact ⟨i + 1, ⟨by omega, by omega⟩, by omega, rfl⟩
    · have : i = ls.length := by omega
      subst this
      repeat' (first | with_reducible refine inw ?_ | simp (maxSteps := 900000) (disch := omega) only [go_sem, Nat.reduceEqDiff, ↓reduceIte, reduceCtorEq, Nat.reduceAdd, Nat.reduceMul, Int.reduceToNat, List.reduceReplicate, Nat.reduceLeDiff, Nat.reduceLT, Int.reduceLT, Int.reduceLE, Int.reduceEq] | with_reducible refine giv_intro fun _h => ?_ | with_reducible refine alt_intro ?_ fun _h => ?_ | with_reducible refine pickD_nil ?_ | (with_reducible refine brc (fun _h => ?_) fun _h => ?_) <;> first | (exfalso; omega) | simp only [decide_eq_false _h] | simp only [(_h : (_ : Bool) = _)] | simp only [decide_eq_true _h] | skip)
      rw [chgI_all]
/-- ablaut/learn.Learn: 3 parameters, 0 captured -/
def s24 : SC := .seq (.reg [o1 6 (.mv (.c (.slice none 0 0))),
   o1 7 (.mv (cI 0))])
  (.seq (.seq (.reg [o1 12 (.mv (.t 0)),
     o1 13 (.call (.f 15) [(.t 12)]),
     o1 8 (.mv (.t 13))])
    (.seq (.reg [o1 14 (.mv (.t 8)),
      o1 15 (.bin .neq (.t 14) (cI 0))])
     (.cond (.t 15) (.seq (.reg [o1 16 (.mv (.t 8)),
        o1 6 (.mv (.c (.slice none 0 0))),
        o1 7 (.mv (.t 16))])
       (.ret)) (.skip))))
   (.seq (.seq (.reg [o1 17 (.mv (.t 1)),
      o1 18 (.bin .lss (.t 17) (cI 1)),
      o1 19 (.mv (.t 18)),
      oF 20 (.mv (.t 2)) 19,
      oF 21 (.bin .lss (.t 20) (cI 1)) 19,
      o1 22 (.pick (.t 19) (cB true) (.t 21)),
      o1 23 (.mv (.t 22)),
      oF 24 (.mv (.t 2)) 23,
      oF 25 (.bin .gtr (.t 24) (cI 24)) 23,
      o1 26 (.pick (.t 23) (cB true) (.t 25))])
     (.cond (.t 26) (.seq (.reg [o1 6 (.mv (.c (.slice none 0 0))),
        o1 7 (.mv (cI 1))])
       (.ret)) (.skip)))
    (.seq (.reg [o1 9 (.mv (.c (.slice none 0 0)))])
     (.seq (.block 0 (.loop (.seq (.seq (.reg [o1 27 (.mv (.t 9)),
           o1 28 (.lenL (.t 27)),
           o1 29 (.mv (.t 2)),
           o1 30 (.bin .lss (.t 28) (.t 29))])
          (.cond (.t 30) (.skip) (.exit 0)))
         (.block 1 (.seq (.reg [o1 32 (.mv (.t 0)),
            o1 33 (.call (.f 46) [(.t 32)]),
            o1 31 (.mv (.t 33)),
            o1 34 (.ext (.t 31) 0),
            o1 35 (.ext (.t 31) 1),
            o1 10 (.alloc 32 4 [(.string ⟨#[]⟩), (.string ⟨#[]⟩), (.int .i64 0), (.string ⟨#[]⟩)]),
            o0 (.store 4 (.t 10) (.t 34)),
            o1 11 (.mv (.t 35))])
           (.seq (.seq (.reg [o1 36 (.mv (.t 11)),
              o1 37 (.mv (.t 1)),
              o1 38 (.bin .lss (.t 36) (.t 37))])
             (.cond (.t 38) (.exit 0) (.skip)))
            (.regG [(true, o1 39 (.mv (.t 9))),
             (true, o1 40 (.load (some 4) (.t 10))),
             (true, o1 41 (.buildSl 32 4 1 [(.string ⟨#[]⟩), (.string ⟨#[]⟩), (.int .i64 0), (.string ⟨#[]⟩)] [(0, 4, (.t 40))])),
             (true, o1 43 (.load (some 4) (.t 10))),
             (true, o1 44 (.mv (.t 0))),
             (true, o1 42 (.app 32 4 56 (.t 39) (.t 41))),
             (false, o1 45 (.call (.f 52) [(.t 43), (.t 44)])),
             (false, o1 9 (.mv (.t 42))),
             (false, o1 0 (.mv (.t 45)))])))))))
      (.seq (.reg [o1 46 (.mv (.t 9)),
        o1 6 (.mv (.t 46)),
        o1 7 (.mv (cI 0))])
       (.ret))))))
theorem s24_ok : lookF Try.prog 24 = some (s24, 47, [.tmp 6, .tmp 7]) := by kernel_rfl
set_option maxHeartbeats 2000000 in
theorem Learn_ok (ls : List Lesson) (least most : Int) (hs : SmLs ls) : Fn P 24 [sl ls, intA least, intA most] (clI (learnT ls least most)) := by
  have c2 := validateL_ok ls hs
  by_cases h2 : valL ls = 0
  · rw [h2] at c2
    by_cases h1 : least < 1 ∨ most < 1 ∨ 24 < most
    · rw [learnT, if_neg (by simpa using h2), if_pos h1]
      (refine fn_look s24_ok (by simp) (by intro k; simp only [go_sem, Nat.reduceEqDiff, ↓reduceIte, reduceCtorEq, Nat.reduceAdd, Nat.reduceMul, Int.reduceToNat, List.reduceReplicate, Nat.reduceLeDiff, Nat.reduceLT, Int.reduceLT, Int.reduceLE, Int.reduceEq]) fun S hS => cwp_sound _ _ _ _ ?_; simp (maxSteps := 900000) (disch := omega) only [s24, go_sem, Nat.reduceEqDiff, ↓reduceIte, reduceCtorEq, Nat.reduceAdd, Nat.reduceMul, Int.reduceToNat, List.reduceReplicate, Nat.reduceLeDiff, Nat.reduceLT, Int.reduceLT, Int.reduceLE, Int.reduceEq])
      repeat' (first | with_reducible refine inw ?_ | simp (maxSteps := 900000) (disch := omega) only [go_sem, Nat.reduceEqDiff, ↓reduceIte, reduceCtorEq, Nat.reduceAdd, Nat.reduceMul, Int.reduceToNat, List.reduceReplicate, Nat.reduceLeDiff, Nat.reduceLT, Int.reduceLT, Int.reduceLE, Int.reduceEq] | (with_reducible apply call (c2)); (focus simp (maxSteps := 900000) (disch := omega) only [go_sem, Nat.reduceEqDiff, ↓reduceIte, reduceCtorEq, Nat.reduceAdd, Nat.reduceMul, Int.reduceToNat, List.reduceReplicate, Nat.reduceLeDiff, Nat.reduceLT, Int.reduceLT, Int.reduceLE, Int.reduceEq] <;> rfl) | with_reducible refine giv_intro fun _h => ?_ | with_reducible refine alt_intro ?_ fun _h => ?_ | with_reducible refine pickD_nil ?_ | (with_reducible refine brc (fun _h => ?_) fun _h => ?_) <;> first | (exfalso; omega) | simp only [decide_eq_false _h] | simp only [(_h : (_ : Bool) = _)] | simp only [decide_eq_true _h] | skip)
      all_goals first | rfl | (exfalso; omega)
    · rw [learnT, if_neg (by simpa using h2), if_neg h1]
      (refine fn_look s24_ok (by simp) (by intro k; simp only [go_sem, Nat.reduceEqDiff, ↓reduceIte, reduceCtorEq, Nat.reduceAdd, Nat.reduceMul, Int.reduceToNat, List.reduceReplicate, Nat.reduceLeDiff, Nat.reduceLT, Int.reduceLT, Int.reduceLE, Int.reduceEq]) fun S hS => cwp_sound _ _ _ _ ?_; simp (maxSteps := 900000) (disch := omega) only [s24, go_sem, Nat.reduceEqDiff, ↓reduceIte, reduceCtorEq, Nat.reduceAdd, Nat.reduceMul, Int.reduceToNat, List.reduceReplicate, Nat.reduceLeDiff, Nat.reduceLT, Int.reduceLT, Int.reduceLE, Int.reduceEq])
      repeat' (first | with_reducible refine inw ?_ | simp (maxSteps := 900000) (disch := omega) only [go_sem, Nat.reduceEqDiff, ↓reduceIte, reduceCtorEq, Nat.reduceAdd, Nat.reduceMul, Int.reduceToNat, List.reduceReplicate, Nat.reduceLeDiff, Nat.reduceLT, Int.reduceLT, Int.reduceLE, Int.reduceEq] | (with_reducible apply call (c2)); (focus simp (maxSteps := 900000) (disch := omega) only [go_sem, Nat.reduceEqDiff, ↓reduceIte, reduceCtorEq, Nat.reduceAdd, Nat.reduceMul, Int.reduceToNat, List.reduceReplicate, Nat.reduceLeDiff, Nat.reduceLT, Int.reduceLT, Int.reduceLE, Int.reduceEq] <;> rfl) | with_reducible refine giv_intro fun _h => ?_ | with_reducible refine alt_intro ?_ fun _h => ?_ | with_reducible refine pickD_nil ?_ | (with_reducible refine brc (fun _h => ?_) fun _h => ?_) <;> first | (exfalso; omega) | simp only [decide_eq_false _h] | simp only [(_h : (_ : Bool) = _)] | simp only [decide_eq_true _h] | skip)
      refine nil_row 9 32 4 (by simp (maxSteps := 900000) (disch := omega) only [go_sem, Nat.reduceEqDiff, ↓reduceIte, reduceCtorEq, Nat.reduceAdd, Nat.reduceMul, Int.reduceToNat, List.reduceReplicate, Nat.reduceLeDiff, Nat.reduceLT, Int.reduceLT, Int.reduceLE, Int.reduceEq]) ?_
      (refine loopC hS [1, 2] (by simp only [go_sem, Nat.reduceEqDiff, ↓reduceIte, reduceCtorEq, Nat.reduceAdd, Nat.reduceMul, Int.reduceToNat, List.reduceReplicate, Nat.reduceLeDiff, Nat.reduceLT, Int.reduceLT, Int.reduceLE, Int.reduceEq]; try rfl) (fun (⟨out, now⟩ : List Change × List Lesson) => [(0, sl now), (9, own S 0 out)]) (fun (⟨out, now⟩ : List Change × List Lesson) => [rowO 32 out]) (fun (⟨out, now⟩ : List Change × List Lesson) => out.length ≤ most.toNat ∧ valL now = 0 ∧ SmLs now ∧ learnS least most.toNat ls = out ++ learnS least (most.toNat - out.length) now) (fun (⟨out, now⟩ : List Change × List Lesson) => most.toNat - out.length) (([], ls)) ?h03 ?hn3 ?rd3; case hn3 => (intro s; first | rfl | (rcases s with ⟨_, _⟩; rfl) | (rcases s with ⟨_, _, _⟩; rfl) | (rcases s with ⟨_, _, _, _⟩; rfl) | (rcases s with ⟨_, _, _, _, _⟩; rfl)))
      · simp (maxSteps := 900000) (disch := omega) only [go_sem, Nat.reduceEqDiff, ↓reduceIte, reduceCtorEq, Nat.reduceAdd, Nat.reduceMul, Int.reduceToNat, List.reduceReplicate, Nat.reduceLeDiff, Nat.reduceLT, Int.reduceLT, Int.reduceLE, Int.reduceEq]
        exact ⟨Nat.zero_le _, h2, hs, rfl⟩
      rintro ⟨out, now⟩ ⟨ho, hv, hn, he⟩
      replace ho : out.length ≤ most.toNat := ho
      replace he : learnS least most.toNat ls = out ++ learnS least (most.toNat - out.length) now := he
      have c3 := best0_ok now (okLs hv) (smV_of hn)
      by_cases hb : (bestL now).2 < least
      · have e0 : learnS least most.toNat ls = out := by rw [he, learnS_stop hb, List.append_nil]
        repeat' (first | with_reducible refine inw ?_ | simp (maxSteps := 900000) (disch := omega) only [go_sem, Nat.reduceEqDiff, ↓reduceIte, reduceCtorEq, Nat.reduceAdd, Nat.reduceMul, Int.reduceToNat, List.reduceReplicate, Nat.reduceLeDiff, Nat.reduceLT, Int.reduceLT, Int.reduceLE, Int.reduceEq] | (with_reducible apply call (c3)); (focus simp (maxSteps := 900000) (disch := omega) only [go_sem, Nat.reduceEqDiff, ↓reduceIte, reduceCtorEq, Nat.reduceAdd, Nat.reduceMul, Int.reduceToNat, List.reduceReplicate, Nat.reduceLeDiff, Nat.reduceLT, Int.reduceLT, Int.reduceLE, Int.reduceEq] <;> rfl) | with_reducible refine giv_intro fun _h => ?_ | with_reducible refine alt_intro ?_ fun _h => ?_ | with_reducible refine pickD_nil ?_ | (with_reducible refine brc (fun _h => ?_) fun _h => ?_) <;> first | (exfalso; omega) | simp only [decide_eq_false _h] | simp only [(_h : (_ : Bool) = _)] | simp only [decide_eq_true _h] | skip)
        all_goals rw [e0]
      · obtain ⟨b1, b2, b3, b4, b5, _⟩ := best_ch hv hn (by omega)
        have c4 := changed_ok (bestL now).1 now (okLs hv) b1.kd
        have v1 := val_chg hv hn b3 b5.2.1
        by_cases hm : out.length < most.toNat
        · have e1 : learnS least (most.toNat - out.length) now = (bestL now).1 :: learnS least (most.toNat - (out.length + 1)) (chgL (bestL now).1 now) := by
            rw [show most.toNat - out.length = (most.toNat - (out.length + 1)) + 1 by omega, learnS, if_neg hb]
          repeat' (first | with_reducible refine inw ?_ | simp (maxSteps := 900000) (disch := omega) only [go_sem, Nat.reduceEqDiff, ↓reduceIte, reduceCtorEq, Nat.reduceAdd, Nat.reduceMul, Int.reduceToNat, List.reduceReplicate, Nat.reduceLeDiff, Nat.reduceLT, Int.reduceLT, Int.reduceLE, Int.reduceEq, cat_ch, src_4] | (with_reducible apply call (c3)); (focus simp (maxSteps := 900000) (disch := omega) only [go_sem, Nat.reduceEqDiff, ↓reduceIte, reduceCtorEq, Nat.reduceAdd, Nat.reduceMul, Int.reduceToNat, List.reduceReplicate, Nat.reduceLeDiff, Nat.reduceLT, Int.reduceLT, Int.reduceLE, Int.reduceEq, cat_ch, src_4] <;> rfl) | (with_reducible apply call_D (c4)); (focus simp (maxSteps := 900000) (disch := omega) only [go_sem, Nat.reduceEqDiff, ↓reduceIte, reduceCtorEq, Nat.reduceAdd, Nat.reduceMul, Int.reduceToNat, List.reduceReplicate, Nat.reduceLeDiff, Nat.reduceLT, Int.reduceLT, Int.reduceLE, Int.reduceEq, cat_ch, src_4] <;> rfl) | with_reducible refine pickD_at [(S.nm 0, none)] ?_ | with_reducible refine giv_intro fun _h => ?_ | with_reducible refine alt_intro ?_ fun _h => ?_ | with_reducible refine pickD_nil ?_ | (with_reducible refine brc (fun _h => ?_) fun _h => ?_) <;> first | (exfalso; omega) | simp only [decide_eq_false _h] | simp only [(_h : (_ : Bool) = _)] | simp only [decide_eq_true _h] | skip)
          refine ⟨(out ++ [(bestL now).1], chgL (bestL now).1 now), ⟨?_, ?_, v1.1, v1.2, ?_⟩, ?_⟩
          · simp only [List.length_append, List.length_singleton]; omega
          · simp only [List.length_append, List.length_singleton]; omega
          · simp only [List.length_append, List.length_singleton]
            rw [he, e1, List.append_assoc]; rfl
          · simp only [List.length_append, List.length_singleton]
            simp
        · have e0 : learnS least most.toNat ls = out := by rw [he, show most.toNat - out.length = 0 by omega]; simp [learnS]
          repeat' (first | with_reducible refine inw ?_ | simp (maxSteps := 900000) (disch := omega) only [go_sem, Nat.reduceEqDiff, ↓reduceIte, reduceCtorEq, Nat.reduceAdd, Nat.reduceMul, Int.reduceToNat, List.reduceReplicate, Nat.reduceLeDiff, Nat.reduceLT, Int.reduceLT, Int.reduceLE, Int.reduceEq] | (with_reducible apply call (c3)); (focus simp (maxSteps := 900000) (disch := omega) only [go_sem, Nat.reduceEqDiff, ↓reduceIte, reduceCtorEq, Nat.reduceAdd, Nat.reduceMul, Int.reduceToNat, List.reduceReplicate, Nat.reduceLeDiff, Nat.reduceLT, Int.reduceLT, Int.reduceLE, Int.reduceEq] <;> rfl) | with_reducible refine giv_intro fun _h => ?_ | with_reducible refine alt_intro ?_ fun _h => ?_ | with_reducible refine pickD_nil ?_ | (with_reducible refine brc (fun _h => ?_) fun _h => ?_) <;> first | (exfalso; omega) | simp only [decide_eq_false _h] | simp only [(_h : (_ : Bool) = _)] | simp only [decide_eq_true _h] | skip)
          all_goals rw [e0]
  · rw [learnT, if_pos h2]
    (refine fn_look s24_ok (by simp) (by intro k; simp only [go_sem, Nat.reduceEqDiff, ↓reduceIte, reduceCtorEq, Nat.reduceAdd, Nat.reduceMul, Int.reduceToNat, List.reduceReplicate, Nat.reduceLeDiff, Nat.reduceLT, Int.reduceLT, Int.reduceLE, Int.reduceEq]) fun S hS => cwp_sound _ _ _ _ ?_; simp (maxSteps := 900000) (disch := omega) only [s24, go_sem, Nat.reduceEqDiff, ↓reduceIte, reduceCtorEq, Nat.reduceAdd, Nat.reduceMul, Int.reduceToNat, List.reduceReplicate, Nat.reduceLeDiff, Nat.reduceLT, Int.reduceLT, Int.reduceLE, Int.reduceEq])
    repeat' (first | with_reducible refine inw ?_ | simp (maxSteps := 900000) (disch := omega) only [go_sem, Nat.reduceEqDiff, ↓reduceIte, reduceCtorEq, Nat.reduceAdd, Nat.reduceMul, Int.reduceToNat, List.reduceReplicate, Nat.reduceLeDiff, Nat.reduceLT, Int.reduceLT, Int.reduceLE, Int.reduceEq] | (with_reducible apply call (c2)); (focus simp (maxSteps := 900000) (disch := omega) only [go_sem, Nat.reduceEqDiff, ↓reduceIte, reduceCtorEq, Nat.reduceAdd, Nat.reduceMul, Int.reduceToNat, List.reduceReplicate, Nat.reduceLeDiff, Nat.reduceLT, Int.reduceLT, Int.reduceLE, Int.reduceEq] <;> rfl) | with_reducible refine giv_intro fun _h => ?_ | with_reducible refine alt_intro ?_ fun _h => ?_ | with_reducible refine pickD_nil ?_ | (with_reducible refine brc (fun _h => ?_) fun _h => ?_) <;> first | (exfalso; omega) | simp only [decide_eq_false _h] | simp only [(_h : (_ : Bool) = _)] | simp only [decide_eq_true _h] | skip)
    all_goals first | rfl | (exfalso; omega)
/-- ablaut/ablautref22.Learn: 3 parameters, 0 captured -/
def s25 : SC := .seq (.reg [o1 6 (.mv (.c (.slice none 0 0))),
   o1 7 (.mv (cI 0))])
  (.seq (.seq (.reg [o1 14 (.mv (.t 0)),
     o1 15 (.call (.f 16) [(.t 14)]),
     o1 8 (.mv (.t 15))])
    (.seq (.reg [o1 16 (.mv (.t 8)),
      o1 17 (.bin .neq (.t 16) (cI 0))])
     (.cond (.t 17) (.seq (.reg [o1 18 (.mv (.t 8)),
        o1 6 (.mv (.c (.slice none 0 0))),
        o1 7 (.mv (.t 18))])
       (.ret)) (.skip))))
   (.seq (.seq (.reg [o1 19 (.mv (.t 1)),
      o1 20 (.bin .lss (.t 19) (cI 1)),
      o1 21 (.mv (.t 20)),
      oF 22 (.mv (.t 2)) 21,
      oF 23 (.bin .lss (.t 22) (cI 1)) 21,
      o1 24 (.pick (.t 21) (cB true) (.t 23)),
      o1 25 (.mv (.t 24)),
      oF 26 (.mv (.t 2)) 25,
      oF 27 (.bin .gtr (.t 26) (cI 24)) 25,
      o1 28 (.pick (.t 25) (cB true) (.t 27))])
     (.cond (.t 28) (.seq (.reg [o1 6 (.mv (.c (.slice none 0 0))),
        o1 7 (.mv (cI 1))])
       (.ret)) (.skip)))
    (.seq (.reg [o1 29 (.mv (.t 0)),
      o1 30 (.app 56 3 72 (.c (.slice none 0 0)) (.t 29)),
      o1 9 (.mv (.t 30))])
     (.seq (.reg [o1 10 (.mv (.c (.slice none 0 0)))])
      (.seq (.block 0 (.loop (.seq (.seq (.reg [o1 31 (.mv (.t 10)),
            o1 32 (.lenL (.t 31)),
            o1 33 (.mv (.t 2)),
            o1 34 (.bin .lss (.t 32) (.t 33))])
           (.cond (.t 34) (.skip) (.exit 0)))
          (.block 1 (.seq (.reg [o1 36 (.mv (.t 9)),
             o1 37 (.call (.f 47) [(.t 36)]),
             o1 35 (.mv (.t 37)),
             o1 38 (.ext (.t 35) 0),
             o1 39 (.ext (.t 35) 1),
             o1 11 (.alloc 32 4 [(.string ⟨#[]⟩), (.string ⟨#[]⟩), (.int .i64 0), (.string ⟨#[]⟩)]),
             o0 (.store 4 (.t 11) (.t 38)),
             o1 12 (.mv (.t 39))])
            (.seq (.seq (.reg [o1 40 (.mv (.t 12)),
               o1 41 (.mv (.t 1)),
               o1 42 (.bin .lss (.t 40) (.t 41))])
              (.cond (.t 42) (.exit 0) (.skip)))
             (.seq (.reg [o1 43 (.mv (.t 10)),
               o1 44 (.load (some 4) (.t 11)),
               o1 45 (.buildSl 32 4 1 [(.string ⟨#[]⟩), (.string ⟨#[]⟩), (.int .i64 0), (.string ⟨#[]⟩)] [(0, 4, (.t 44))]),
               o1 46 (.app 32 4 56 (.t 43) (.t 45)),
               o1 10 (.mv (.t 46))])
              (.seq (.reg [o1 13 (.mv (cI 0))])
               (.block 2 (.loop (.seq (.seq (.reg [o1 47 (.mv (.t 13)),
                    o1 48 (.mv (.t 9)),
                    o1 49 (.lenL (.t 48)),
                    o1 50 (.bin .lss (.t 47) (.t 49))])
                   (.cond (.t 50) (.skip) (.exit 2)))
                  (.seq (.block 3 (.regE [o1 53 (.mv (.t 9)),
                     o1 54 (.mv (.t 13)),
                     o1 55 (.load (some 4) (.t 11)),
                     o1 56 (.mv (.t 9)),
                     o1 57 (.mv (.t 13)),
                     o1 58 (.iaddr 3 (.t 56) (.t 57)),
                     o1 59 (.faddr 0 (.t 58)),
                     o1 60 (.load none (.t 59)),
                     o1 61 (.mv (.t 9)),
                     o1 62 (.mv (.t 13)),
                     o1 63 (.iaddr 3 (.t 61) (.t 62)),
                     o1 64 (.faddr 1 (.t 63)),
                     o1 65 (.load none (.t 64)),
                     o1 66 (.call (.f 53) [(.t 55), (.t 60), (.t 65)]),
                     o1 67 (.iaddr 3 (.t 53) (.t 54)),
                     o1 68 (.faddr 1 (.t 67)),
                     o0 (.store 1 (.t 68) (.t 66))]))
                   (.reg [o1 51 (.mv (.t 13)),
                    o1 52 (.bin .add (.t 51) (cI 1)),
                    o1 13 (.mv (.t 52))])))))))))))))
       (.seq (.reg [o1 69 (.mv (.t 10)),
         o1 6 (.mv (.t 69)),
         o1 7 (.mv (cI 0))])
        (.ret)))))))
theorem s25_ok : lookF Try.prog 25 = some (s25, 70, [.tmp 6, .tmp 7]) := by kernel_rfl
set_option maxHeartbeats 4000000 in
theorem rLearn_ok (ls : List Lesson) (least most : Int) (hs : SmLs ls) : Fn P 25 [sl ls, intA least, intA most] (clI (learnT ls least most)) := by
  have c2 := rValidateL_ok ls hs
  by_cases h2 : valL ls = 0
  · rw [h2] at c2
    have hls := (okLs h2).1
    by_cases h1 : least < 1 ∨ most < 1 ∨ 24 < most
    · rw [learnT, if_neg (by simpa using h2), if_pos h1]
      (refine fn_look s25_ok (by simp) (by intro k; simp only [go_sem, Nat.reduceEqDiff, ↓reduceIte, reduceCtorEq, Nat.reduceAdd, Nat.reduceMul, Int.reduceToNat, List.reduceReplicate, Nat.reduceLeDiff, Nat.reduceLT, Int.reduceLT, Int.reduceLE, Int.reduceEq]) fun S hS => cwp_sound _ _ _ _ ?_; simp (maxSteps := 900000) (disch := omega) only [s25, go_sem, Nat.reduceEqDiff, ↓reduceIte, reduceCtorEq, Nat.reduceAdd, Nat.reduceMul, Int.reduceToNat, List.reduceReplicate, Nat.reduceLeDiff, Nat.reduceLT, Int.reduceLT, Int.reduceLE, Int.reduceEq])
      repeat' (first | with_reducible refine inw ?_ | simp (maxSteps := 900000) (disch := omega) only [go_sem, Nat.reduceEqDiff, ↓reduceIte, reduceCtorEq, Nat.reduceAdd, Nat.reduceMul, Int.reduceToNat, List.reduceReplicate, Nat.reduceLeDiff, Nat.reduceLT, Int.reduceLT, Int.reduceLE, Int.reduceEq] | (with_reducible apply call (c2)); (focus simp (maxSteps := 900000) (disch := omega) only [go_sem, Nat.reduceEqDiff, ↓reduceIte, reduceCtorEq, Nat.reduceAdd, Nat.reduceMul, Int.reduceToNat, List.reduceReplicate, Nat.reduceLeDiff, Nat.reduceLT, Int.reduceLT, Int.reduceLE, Int.reduceEq] <;> rfl) | with_reducible refine giv_intro fun _h => ?_ | with_reducible refine alt_intro ?_ fun _h => ?_ | with_reducible refine pickD_nil ?_ | (with_reducible refine brc (fun _h => ?_) fun _h => ?_) <;> first | (exfalso; omega) | simp only [decide_eq_false _h] | simp only [(_h : (_ : Bool) = _)] | simp only [decide_eq_true _h] | skip)
      all_goals first | rfl | (exfalso; omega)
    · rw [learnT, if_neg (by simpa using h2), if_neg h1]
      rcases Nat.eq_zero_or_pos ls.length with h0 | h0
      · obtain rfl := List.eq_nil_of_length_eq_zero h0
        have c3 := rBest0_ok [] (okLs h2) (smW_of hs h2)
        have hb : (bestL []).2 < least := by
          have e : bestL [] = (dfC, 0) := (best_eq (.inl ⟨rfl, fun c _ => Int.le_refl _⟩)).symm
          rw [e]; show (0 : Int) < least; omega
        have e0 : learnS least most.toNat [] = [] := learnS_stop hb
        rw [e0]
        (refine fn_look s25_ok (by simp) (by intro k; simp only [go_sem, Nat.reduceEqDiff, ↓reduceIte, reduceCtorEq, Nat.reduceAdd, Nat.reduceMul, Int.reduceToNat, List.reduceReplicate, Nat.reduceLeDiff, Nat.reduceLT, Int.reduceLT, Int.reduceLE, Int.reduceEq]) fun S hS => cwp_sound _ _ _ _ ?_; simp (maxSteps := 900000) (disch := omega) only [s25, go_sem, Nat.reduceEqDiff, ↓reduceIte, reduceCtorEq, Nat.reduceAdd, Nat.reduceMul, Int.reduceToNat, List.reduceReplicate, Nat.reduceLeDiff, Nat.reduceLT, Int.reduceLT, Int.reduceLE, Int.reduceEq])
        repeat' (first | with_reducible refine inw ?_ | simp (maxSteps := 900000) (disch := omega) only [go_sem, Nat.reduceEqDiff, ↓reduceIte, reduceCtorEq, Nat.reduceAdd, Nat.reduceMul, Int.reduceToNat, List.reduceReplicate, Nat.reduceLeDiff, Nat.reduceLT, Int.reduceLT, Int.reduceLE, Int.reduceEq] | (with_reducible apply call (c2)); (focus simp (maxSteps := 900000) (disch := omega) only [go_sem, Nat.reduceEqDiff, ↓reduceIte, reduceCtorEq, Nat.reduceAdd, Nat.reduceMul, Int.reduceToNat, List.reduceReplicate, Nat.reduceLeDiff, Nat.reduceLT, Int.reduceLT, Int.reduceLE, Int.reduceEq] <;> rfl) | (with_reducible apply call_lendZ (c3)); (focus simp (maxSteps := 900000) (disch := omega) only [go_sem, Nat.reduceEqDiff, ↓reduceIte, reduceCtorEq, Nat.reduceAdd, Nat.reduceMul, Int.reduceToNat, List.reduceReplicate, Nat.reduceLeDiff, Nat.reduceLT, Int.reduceLT, Int.reduceLE, Int.reduceEq] <;> rfl); (focus rfl) | with_reducible refine giv_intro fun _h => ?_ | with_reducible refine alt_intro ?_ fun _h => ?_ | with_reducible refine pickD_nil ?_ | (with_reducible refine brc (fun _h => ?_) fun _h => ?_) <;> first | (exfalso; omega) | simp only [decide_eq_false _h] | simp only [(_h : (_ : Bool) = _)] | simp only [decide_eq_true _h] | skip)
        (refine loopC hS [1, 2, 9] (by simp only [go_sem, Nat.reduceEqDiff, ↓reduceIte, reduceCtorEq, Nat.reduceAdd, Nat.reduceMul, Int.reduceToNat, List.reduceReplicate, Nat.reduceLeDiff, Nat.reduceLT, Int.reduceLT, Int.reduceLE, Int.reduceEq]; try rfl) (fun (i : Nat) => [(10, nilA)]) (fun (i : Nat) => []) (fun (i : Nat) => True) (fun (i : Nat) => 0) (0) ?h04 ?hn4 ?rd4; case hn4 => (intro s; first | rfl | (rcases s with ⟨_, _⟩; rfl) | (rcases s with ⟨_, _, _⟩; rfl) | (rcases s with ⟨_, _, _, _⟩; rfl) | (rcases s with ⟨_, _, _, _, _⟩; rfl)))
        · simp (maxSteps := 900000) (disch := omega) only [go_sem, Nat.reduceEqDiff, ↓reduceIte, reduceCtorEq, Nat.reduceAdd, Nat.reduceMul, Int.reduceToNat, List.reduceReplicate, Nat.reduceLeDiff, Nat.reduceLT, Int.reduceLT, Int.reduceLE, Int.reduceEq]
        rintro i _
        repeat' (first | with_reducible refine inw ?_ | simp (maxSteps := 900000) (disch := omega) only [go_sem, Nat.reduceEqDiff, ↓reduceIte, reduceCtorEq, Nat.reduceAdd, Nat.reduceMul, Int.reduceToNat, List.reduceReplicate, Nat.reduceLeDiff, Nat.reduceLT, Int.reduceLT, Int.reduceLE, Int.reduceEq] | (with_reducible apply call_lendZ (c3)); (focus simp (maxSteps := 900000) (disch := omega) only [go_sem, Nat.reduceEqDiff, ↓reduceIte, reduceCtorEq, Nat.reduceAdd, Nat.reduceMul, Int.reduceToNat, List.reduceReplicate, Nat.reduceLeDiff, Nat.reduceLT, Int.reduceLT, Int.reduceLE, Int.reduceEq] <;> rfl); (focus rfl) | with_reducible refine giv_intro fun _h => ?_ | with_reducible refine alt_intro ?_ fun _h => ?_ | with_reducible refine pickD_nil ?_ | (with_reducible refine brc (fun _h => ?_) fun _h => ?_) <;> first | (exfalso; omega) | simp only [decide_eq_false _h] | simp only [(_h : (_ : Bool) = _)] | simp only [decide_eq_true _h] | skip)
        rfl
      · (refine fn_look s25_ok (by simp) (by intro k; simp only [go_sem, Nat.reduceEqDiff, ↓reduceIte, reduceCtorEq, Nat.reduceAdd, Nat.reduceMul, Int.reduceToNat, List.reduceReplicate, Nat.reduceLeDiff, Nat.reduceLT, Int.reduceLT, Int.reduceLE, Int.reduceEq]) fun S hS => cwp_sound _ _ _ _ ?_; simp (maxSteps := 900000) (disch := omega) only [s25, go_sem, Nat.reduceEqDiff, ↓reduceIte, reduceCtorEq, Nat.reduceAdd, Nat.reduceMul, Int.reduceToNat, List.reduceReplicate, Nat.reduceLeDiff, Nat.reduceLT, Int.reduceLT, Int.reduceLE, Int.reduceEq])
        repeat' (first | with_reducible refine inw ?_ | simp (maxSteps := 900000) (disch := omega) only [go_sem, Nat.reduceEqDiff, ↓reduceIte, reduceCtorEq, Nat.reduceAdd, Nat.reduceMul, Int.reduceToNat, List.reduceReplicate, Nat.reduceLeDiff, Nat.reduceLT, Int.reduceLT, Int.reduceLE, Int.reduceEq] | (with_reducible apply call (c2)); (focus simp (maxSteps := 900000) (disch := omega) only [go_sem, Nat.reduceEqDiff, ↓reduceIte, reduceCtorEq, Nat.reduceAdd, Nat.reduceMul, Int.reduceToNat, List.reduceReplicate, Nat.reduceLeDiff, Nat.reduceLT, Int.reduceLT, Int.reduceLE, Int.reduceEq] <;> rfl) | with_reducible refine giv_intro fun _h => ?_ | with_reducible refine alt_intro ?_ fun _h => ?_ | with_reducible refine pickD_nil ?_ | (with_reducible refine brc (fun _h => ?_) fun _h => ?_) <;> first | (exfalso; omega) | simp only [decide_eq_false _h] | simp only [(_h : (_ : Bool) = _)] | simp only [decide_eq_true _h] | skip)
        refine nil_row 10 32 4 (by simp (maxSteps := 900000) (disch := omega) only [go_sem, Nat.reduceEqDiff, ↓reduceIte, reduceCtorEq, Nat.reduceAdd, Nat.reduceMul, Int.reduceToNat, List.reduceReplicate, Nat.reduceLeDiff, Nat.reduceLT, Int.reduceLT, Int.reduceLE, Int.reduceEq]) ?_
        (refine loopC hS [1, 2, 9] (by simp only [go_sem, Nat.reduceEqDiff, ↓reduceIte, reduceCtorEq, Nat.reduceAdd, Nat.reduceMul, Int.reduceToNat, List.reduceReplicate, Nat.reduceLeDiff, Nat.reduceLT, Int.reduceLT, Int.reduceLE, Int.reduceEq]; try rfl) (fun (⟨out, now⟩ : List Change × List Lesson) => [(10, own S 1 out)]) (fun (⟨out, now⟩ : List Change × List Lesson) => [rowO 56 now, rowO 32 out]) (fun (⟨out, now⟩ : List Change × List Lesson) => now.length = ls.length ∧ out.length ≤ most.toNat ∧ valL now = 0 ∧ SmLs now ∧ learnS least most.toNat ls = out ++ learnS least (most.toNat - out.length) now) (fun (⟨out, now⟩ : List Change × List Lesson) => most.toNat - out.length) (([], ls)) ?h05 ?hn5 ?rd5; case hn5 => (intro s; first | rfl | (rcases s with ⟨_, _⟩; rfl) | (rcases s with ⟨_, _, _⟩; rfl) | (rcases s with ⟨_, _, _, _⟩; rfl) | (rcases s with ⟨_, _, _, _, _⟩; rfl)))
        · simp (maxSteps := 900000) (disch := omega) only [go_sem, Nat.reduceEqDiff, ↓reduceIte, reduceCtorEq, Nat.reduceAdd, Nat.reduceMul, Int.reduceToNat, List.reduceReplicate, Nat.reduceLeDiff, Nat.reduceLT, Int.reduceLT, Int.reduceLE, Int.reduceEq]
          exact ⟨Nat.zero_le _, h2, hs, rfl⟩
        rintro ⟨out, now⟩ ⟨hnl, ho, hv, hn, he⟩
        replace hnl : now.length = ls.length := hnl
        replace ho : out.length ≤ most.toNat := ho
        replace he : learnS least most.toNat ls = out ++ learnS least (most.toNat - out.length) now := he
        have c3 := rBest0_ok now (okLs hv) (smW_of hn hv)
        by_cases hb : (bestL now).2 < least
        · have e0 : learnS least most.toNat ls = out := by rw [he, learnS_stop hb, List.append_nil]
          repeat' (first | with_reducible refine inw ?_ | simp (maxSteps := 900000) (disch := omega) only [go_sem, Nat.reduceEqDiff, ↓reduceIte, reduceCtorEq, Nat.reduceAdd, Nat.reduceMul, Int.reduceToNat, List.reduceReplicate, Nat.reduceLeDiff, Nat.reduceLT, Int.reduceLT, Int.reduceLE, Int.reduceEq] | (with_reducible apply call_lendZ (c3)); (focus simp (maxSteps := 900000) (disch := omega) only [go_sem, Nat.reduceEqDiff, ↓reduceIte, reduceCtorEq, Nat.reduceAdd, Nat.reduceMul, Int.reduceToNat, List.reduceReplicate, Nat.reduceLeDiff, Nat.reduceLT, Int.reduceLT, Int.reduceLE, Int.reduceEq] <;> rfl); (focus rfl) | with_reducible refine giv_intro fun _h => ?_ | with_reducible refine alt_intro ?_ fun _h => ?_ | with_reducible refine pickD_nil ?_ | (with_reducible refine brc (fun _h => ?_) fun _h => ?_) <;> first | (exfalso; omega) | simp only [decide_eq_false _h] | simp only [(_h : (_ : Bool) = _)] | simp only [decide_eq_true _h] | skip)
          all_goals rw [e0]
        · obtain ⟨b1, b2, b3, b4, b5, _⟩ := best_ch hv hn (by omega)
          have v1 := val_chg hv hn b3 b5.2.1
          by_cases hm : out.length < most.toNat
          · have e1 : learnS least (most.toNat - out.length) now = (bestL now).1 :: learnS least (most.toNat - (out.length + 1)) (chgL (bestL now).1 now) := by
              rw [show most.toNat - out.length = (most.toNat - (out.length + 1)) + 1 by omega, learnS, if_neg hb]
            repeat' (first | with_reducible refine inw ?_ | simp (maxSteps := 900000) (disch := omega) only [go_sem, Nat.reduceEqDiff, ↓reduceIte, reduceCtorEq, Nat.reduceAdd, Nat.reduceMul, Int.reduceToNat, List.reduceReplicate, Nat.reduceLeDiff, Nat.reduceLT, Int.reduceLT, Int.reduceLE, Int.reduceEq, cat_ch, src_4] | (with_reducible apply call_lendZ (c3)); (focus simp (maxSteps := 900000) (disch := omega) only [go_sem, Nat.reduceEqDiff, ↓reduceIte, reduceCtorEq, Nat.reduceAdd, Nat.reduceMul, Int.reduceToNat, List.reduceReplicate, Nat.reduceLeDiff, Nat.reduceLT, Int.reduceLT, Int.reduceLE, Int.reduceEq, cat_ch, src_4] <;> rfl); (focus rfl) | with_reducible refine giv_intro fun _h => ?_ | with_reducible refine alt_intro ?_ fun _h => ?_ | with_reducible refine pickD_nil ?_ | (with_reducible refine brc (fun _h => ?_) fun _h => ?_) <;> first | (exfalso; omega) | simp only [decide_eq_false _h] | simp only [(_h : (_ : Bool) = _)] | simp only [decide_eq_true _h] | skip)
            (refine loopC hS [1, 2, 9, 10, 11] (by simp only [go_sem, Nat.reduceEqDiff, ↓reduceIte, reduceCtorEq, Nat.reduceAdd, Nat.reduceMul, Int.reduceToNat, List.reduceReplicate, Nat.reduceLeDiff, Nat.reduceLT, Int.reduceLT, Int.reduceLE, Int.reduceEq]; try rfl) (fun (i : Nat) => [(13, intA i)]) (fun (i : Nat) => [rowO 56 (chgI (bestL now).1 now i), rowO 32 (out ++ [(bestL now).1]), some (Ob.row 32 4 [strA (bestL now).1.1, strA (bestL now).1.2.1, intA (bestL now).1.2.2.1, strA (bestL now).1.2.2.2]), none]) (fun (i : Nat) => i ≤ now.length) (fun (i : Nat) => now.length - i) (0) ?h06 ?hn6 ?rd6; case hn6 => (intro s; first | rfl | (rcases s with ⟨_, _⟩; rfl) | (rcases s with ⟨_, _, _⟩; rfl) | (rcases s with ⟨_, _, _, _⟩; rfl) | (rcases s with ⟨_, _, _, _, _⟩; rfl)))
            · simp (maxSteps := 900000) (disch := omega) only [go_sem, Nat.reduceEqDiff, ↓reduceIte, reduceCtorEq, Nat.reduceAdd, Nat.reduceMul, Int.reduceToNat, List.reduceReplicate, Nat.reduceLeDiff, Nat.reduceLT, Int.reduceLT, Int.reduceLE, Int.reduceEq]
              exact ⟨Nat.zero_le _, by rw [chgI_0]⟩
            rintro i hi
            replace hi : i ≤ now.length := hi
            have hcl := chgI_len (bestL now).1 now i
            by_cases hil : i < now.length
            · obtain ⟨g1, g2, g3⟩ := (okLs hv).2 _ (nth_mem hil)
              have c4 := once_ok (bestL now).1 (nth now i).1 (nth now i).2.1 (by omega) b1.kd
              have hil2 : i < (chgI (bestL now).1 now i).length := by omega
              have q0 := gl_0 hil2
              have q1 := gl_1 hil2
              have q2 := pl_1 hil2 (doneL (bestL now).1 (nth now i).1 (nth now i).2.1)
              have q3 := chgI_put (c := (bestL now).1) hil
              rw [chgI_nth hil] at q0 q1 q2
              rw [chgX] at q3
              rw [q3] at q2
              repeat' (first | with_reducible refine inw ?_ | simp (maxSteps := 900000) (disch := omega) only [go_sem, Nat.reduceEqDiff, ↓reduceIte, reduceCtorEq, Nat.reduceAdd, Nat.reduceMul, Int.reduceToNat, List.reduceReplicate, Nat.reduceLeDiff, Nat.reduceLT, Int.reduceLT, Int.reduceLE, Int.reduceEq, q0, q1, q2] | (with_reducible apply call_D (c4)); (focus simp (maxSteps := 900000) (disch := omega) only [go_sem, Nat.reduceEqDiff, ↓reduceIte, reduceCtorEq, Nat.reduceAdd, Nat.reduceMul, Int.reduceToNat, List.reduceReplicate, Nat.reduceLeDiff, Nat.reduceLT, Int.reduceLT, Int.reduceLE, Int.reduceEq, q0, q1, q2] <;> rfl) | with_reducible refine giv_intro fun _h => ?_ | with_reducible refine alt_intro ?_ fun _h => ?_ | with_reducible refine pickD_nil ?_ | (with_reducible refine brc (fun _h => ?_) fun _h => ?_) <;> first | (exfalso; omega) | simp only [decide_eq_false _h] | simp only [(_h : (_ : Bool) = _)] | simp only [decide_eq_true _h] | skip)
              exact ⟨i + 1, ⟨by omega, by omega⟩, by omega, rfl⟩
            · have : i = now.length := by omega
              subst this
              repeat' (first | with_reducible refine inw ?_ | simp (maxSteps := 900000) (disch := omega) only [go_sem, Nat.reduceEqDiff, ↓reduceIte, reduceCtorEq, Nat.reduceAdd, Nat.reduceMul, Int.reduceToNat, List.reduceReplicate, Nat.reduceLeDiff, Nat.reduceLT, Int.reduceLT, Int.reduceLE, Int.reduceEq] | with_reducible refine giv_intro fun _h => ?_ | with_reducible refine alt_intro ?_ fun _h => ?_ | with_reducible refine pickD_nil ?_ | (with_reducible refine brc (fun _h => ?_) fun _h => ?_) <;> first | (exfalso; omega) | simp only [decide_eq_false _h] | simp only [(_h : (_ : Bool) = _)] | simp only [decide_eq_true _h] | skip)
              refine ⟨(out ++ [(bestL now).1], chgL (bestL now).1 now), ⟨?_, ?_, ?_, v1.1, v1.2, ?_⟩, ?_⟩
              · simp only [List.length_append, List.length_singleton]; omega
              · simp only [chgL, List.length_map]; exact hnl
              · simp only [List.length_append, List.length_singleton]; omega
              · simp only [List.length_append, List.length_singleton]
                rw [he, e1, List.append_assoc]; rfl
              · simp [chgI_all]
          · have e0 : learnS least most.toNat ls = out := by rw [he, show most.toNat - out.length = 0 by omega]; simp [learnS]
            repeat' (first | with_reducible refine inw ?_ | simp (maxSteps := 900000) (disch := omega) only [go_sem, Nat.reduceEqDiff, ↓reduceIte, reduceCtorEq, Nat.reduceAdd, Nat.reduceMul, Int.reduceToNat, List.reduceReplicate, Nat.reduceLeDiff, Nat.reduceLT, Int.reduceLT, Int.reduceLE, Int.reduceEq] | (with_reducible apply call_lendZ (c3)); (focus simp (maxSteps := 900000) (disch := omega) only [go_sem, Nat.reduceEqDiff, ↓reduceIte, reduceCtorEq, Nat.reduceAdd, Nat.reduceMul, Int.reduceToNat, List.reduceReplicate, Nat.reduceLeDiff, Nat.reduceLT, Int.reduceLT, Int.reduceLE, Int.reduceEq] <;> rfl); (focus rfl) | with_reducible refine giv_intro fun _h => ?_ | with_reducible refine alt_intro ?_ fun _h => ?_ | with_reducible refine pickD_nil ?_ | (with_reducible refine brc (fun _h => ?_) fun _h => ?_) <;> first | (exfalso; omega) | simp only [decide_eq_false _h] | simp only [(_h : (_ : Bool) = _)] | simp only [decide_eq_true _h] | skip)
            all_goals rw [e0]
  · rw [learnT, if_pos h2]
    (refine fn_look s25_ok (by simp) (by intro k; simp only [go_sem, Nat.reduceEqDiff, ↓reduceIte, reduceCtorEq, Nat.reduceAdd, Nat.reduceMul, Int.reduceToNat, List.reduceReplicate, Nat.reduceLeDiff, Nat.reduceLT, Int.reduceLT, Int.reduceLE, Int.reduceEq]) fun S hS => cwp_sound _ _ _ _ ?_; simp (maxSteps := 900000) (disch := omega) only [s25, go_sem, Nat.reduceEqDiff, ↓reduceIte, reduceCtorEq, Nat.reduceAdd, Nat.reduceMul, Int.reduceToNat, List.reduceReplicate, Nat.reduceLeDiff, Nat.reduceLT, Int.reduceLT, Int.reduceLE, Int.reduceEq])
    repeat' (first | with_reducible refine inw ?_ | simp (maxSteps := 900000) (disch := omega) only [go_sem, Nat.reduceEqDiff, ↓reduceIte, reduceCtorEq, Nat.reduceAdd, Nat.reduceMul, Int.reduceToNat, List.reduceReplicate, Nat.reduceLeDiff, Nat.reduceLT, Int.reduceLT, Int.reduceLE, Int.reduceEq] | (with_reducible apply call (c2)); (focus simp (maxSteps := 900000) (disch := omega) only [go_sem, Nat.reduceEqDiff, ↓reduceIte, reduceCtorEq, Nat.reduceAdd, Nat.reduceMul, Int.reduceToNat, List.reduceReplicate, Nat.reduceLeDiff, Nat.reduceLT, Int.reduceLT, Int.reduceLE, Int.reduceEq] <;> rfl) | with_reducible refine giv_intro fun _h => ?_ | with_reducible refine alt_intro ?_ fun _h => ?_ | with_reducible refine pickD_nil ?_ | (with_reducible refine brc (fun _h => ?_) fun _h => ?_) <;> first | (exfalso; omega) | simp only [decide_eq_false _h] | simp only [(_h : (_ : Bool) = _)] | simp only [decide_eq_true _h] | skip)
    all_goals first | rfl | (exfalso; omega)
/-- ablaut/ablautlaw22.LearnLearns: 3 parameters, 0 captured -/
def s6 : SC := .seq (.reg [o1 6 (.mv (cB false))])
  (.seq (.seq (.reg [o1 11 (.mv (.t 0)),
     o1 12 (.call (.f 11) [(.t 11)])])
    (.cond (.t 12) (.seq (.reg [o1 13 (.call (.f 12) []),
       o1 6 (.mv (.t 13))])
      (.ret)) (.skip)))
   (.seq (.reg [o1 15 (.mv (.t 0)),
     o1 16 (.mv (.t 1)),
     o1 17 (.mv (.t 2)),
     o1 18 (.call (.f 24) [(.t 15), (.t 16), (.t 17)]),
     o1 14 (.mv (.t 18)),
     o1 19 (.ext (.t 14) 0),
     o1 20 (.ext (.t 14) 1),
     o1 7 (.mv (.t 19)),
     o1 8 (.mv (.t 20))])
    (.seq (.reg [o1 22 (.mv (.t 0)),
      o1 23 (.mv (.t 1)),
      o1 24 (.mv (.t 2)),
      o1 25 (.call (.f 25) [(.t 22), (.t 23), (.t 24)]),
      o1 21 (.mv (.t 25)),
      o1 26 (.ext (.t 21) 0),
      o1 27 (.ext (.t 21) 1),
      o1 9 (.mv (.t 26)),
      o1 10 (.mv (.t 27))])
     (.seq (.reg [o1 28 (.mv (.t 7)),
       o1 29 (.mv (.t 9)),
       o1 30 (.call (.f 26) [(.t 28), (.t 29)]),
       o1 31 (.mv (.t 30)),
       oT 32 (.mv (.t 8)) 31,
       oT 33 (.mv (.t 10)) 31,
       oT 34 (.bin .eql (.t 32) (.t 33)) 31,
       o1 35 (.pick (.t 31) (.t 34) (cB false)),
       o1 36 (.mv (.t 35)),
       oT 37 (.call (.f 12) []) 36,
       o1 38 (.pick (.t 36) (.t 37) (cB false)),
       o1 6 (.mv (.t 38))])
      (.ret)))))
theorem s6_ok : lookF Try.prog 6 = some (s6, 39, [.tmp 6]) := by kernel_rfl
theorem LearnLearns_ok (ls : List Lesson) (least most : Int) (hs : SmLs ls) : Fn P 6 [sl ls, intA least, intA most] (boolA true) := by
  have c4 := same_ok (learnT ls least most).1
  (refine fn_look s6_ok (by simp) (by intro k; simp only [go_sem, Nat.reduceEqDiff, ↓reduceIte, reduceCtorEq, Nat.reduceAdd, Nat.reduceMul, Int.reduceToNat, List.reduceReplicate, Nat.reduceLeDiff, Nat.reduceLT, Int.reduceLT, Int.reduceLE, Int.reduceEq]) fun S hS => cwp_sound _ _ _ _ ?_; simp (maxSteps := 900000) (disch := omega) only [s6, go_sem, Nat.reduceEqDiff, ↓reduceIte, reduceCtorEq, Nat.reduceAdd, Nat.reduceMul, Int.reduceToNat, List.reduceReplicate, Nat.reduceLeDiff, Nat.reduceLT, Int.reduceLT, Int.reduceLE, Int.reduceEq])
  repeat' (first | with_reducible refine inw ?_ | simp (maxSteps := 900000) (disch := omega) only [go_sem, Nat.reduceEqDiff, ↓reduceIte, reduceCtorEq, Nat.reduceAdd, Nat.reduceMul, Int.reduceToNat, List.reduceReplicate, Nat.reduceLeDiff, Nat.reduceLT, Int.reduceLT, Int.reduceLE, Int.reduceEq] | (with_reducible apply callR (over_ok ls hs)); (focus simp (maxSteps := 900000) (disch := omega) only [go_sem, Nat.reduceEqDiff, ↓reduceIte, reduceCtorEq, Nat.reduceAdd, Nat.reduceMul, Int.reduceToNat, List.reduceReplicate, Nat.reduceLeDiff, Nat.reduceLT, Int.reduceLT, Int.reduceLE, Int.reduceEq] <;> rfl); rintro _ ⟨_, rfl⟩ | (with_reducible apply call (known_ok)); (focus simp (maxSteps := 900000) (disch := omega) only [go_sem, Nat.reduceEqDiff, ↓reduceIte, reduceCtorEq, Nat.reduceAdd, Nat.reduceMul, Int.reduceToNat, List.reduceReplicate, Nat.reduceLeDiff, Nat.reduceLT, Int.reduceLT, Int.reduceLE, Int.reduceEq] <;> rfl) | (with_reducible apply call (Learn_ok ls least most hs)); (focus simp (maxSteps := 900000) (disch := omega) only [go_sem, Nat.reduceEqDiff, ↓reduceIte, reduceCtorEq, Nat.reduceAdd, Nat.reduceMul, Int.reduceToNat, List.reduceReplicate, Nat.reduceLeDiff, Nat.reduceLT, Int.reduceLT, Int.reduceLE, Int.reduceEq] <;> rfl) | (with_reducible apply call (rLearn_ok ls least most hs)); (focus simp (maxSteps := 900000) (disch := omega) only [go_sem, Nat.reduceEqDiff, ↓reduceIte, reduceCtorEq, Nat.reduceAdd, Nat.reduceMul, Int.reduceToNat, List.reduceReplicate, Nat.reduceLeDiff, Nat.reduceLT, Int.reduceLT, Int.reduceLE, Int.reduceEq] <;> rfl) | (with_reducible apply call (c4)); (focus simp (maxSteps := 900000) (disch := omega) only [go_sem, Nat.reduceEqDiff, ↓reduceIte, reduceCtorEq, Nat.reduceAdd, Nat.reduceMul, Int.reduceToNat, List.reduceReplicate, Nat.reduceLeDiff, Nat.reduceLT, Int.reduceLT, Int.reduceLE, Int.reduceEq] <;> rfl) | with_reducible refine giv_intro fun _h => ?_ | with_reducible refine alt_intro ?_ fun _h => ?_ | with_reducible refine pickD_nil ?_ | (with_reducible refine brc (fun _h => ?_) fun _h => ?_) <;> first | (exfalso; omega) | simp only [decide_eq_false _h] | simp only [(_h : (_ : Bool) = _)] | simp only [decide_eq_true _h] | skip)
end Go.Proofs.Ytapgimibdamjoaa.Ev

/- How much is wrong; what a change gains: both programs. -/
import Derived.Test.YtapgimibdamjoaaZFnNi
set_option linter.unusedVariables false
set_option linter.unusedSimpArgs false
namespace Go.Proofs.Ytapgimibdamjoaa.Ev
open Go Go.Proofs

/-- Places k < n at which a and b differ. -/
def misN (a b : List Str) : Nat → Nat
  | 0 => 0
  | k + 1 => misN a b k + if nth a k ≠ nth b k then 1 else 0
theorem misN_le (a b : List Str) : ∀ k, misN a b k ≤ k
  | 0 => Nat.le_refl _
  | k + 1 => by have := misN_le a b k; rw [misN]; split <;> omega
def misL (l : List Change) (x : Lesson) : Nat := misN (runL l x.1 x.2.1) x.2.2 x.2.1.length
def wrF (l : List Change) (ls : List Lesson) : Nat → Nat
  | 0 => 0
  | i + 1 => wrF l ls i + misL l (nth ls i)
def wrongL (l : List Change) (ls : List Lesson) : Nat := wrF l ls ls.length
abbrev OkL (x : Lesson) : Prop := x.1.length ≤ 200 ∧ x.2.1.length = x.1.length ∧ x.2.2.length = x.1.length
abbrev OkLs (ls : List Lesson) : Prop := ls.length ≤ 200 ∧ ∀ x ∈ ls, OkL x
theorem wrF_le {l : List Change} {ls : List Lesson} (h : OkLs ls) : ∀ {i : Nat}, i ≤ ls.length → wrF l ls i ≤ i * 200
  | 0, _ => Nat.le_refl _
  | i + 1, hi => by
    have h1 := wrF_le (l := l) h (i := i) (by omega)
    have h2 := misN_le (runL l (nth ls i).1 (nth ls i).2.1) (nth ls i).2.2 (nth ls i).2.1.length
    have h3 := h.2 _ (nth_mem (l := ls) (i := i) (by omega))
    rw [wrF, misL]; omega
/-- ablaut/learn.wrong: 2 parameters, 0 captured -/
def s57 : SC := .seq (.reg [o1 4 (.mv (cI 0))])
  (.seq (.reg [o1 5 (.mv (cI 0))])
   (.seq (.seq (.reg [o1 10 (.mv (.t 1)),
      o1 11 (.lenL (.t 10)),
      o1 12 (.mv (cI 0))])
     (.block 0 (.loop (.seq (.reg [o1 13 (.bin .lss (.t 12) (.t 11))])
        (.seq (.cond (.t 13) (.skip) (.exit 0))
         (.seq (.block 1 (.seq (.reg [o1 14 (.iaddr 3 (.t 10) (.t 12)),
             o1 15 (.load (some 3) (.t 14)),
             o1 7 (.alloc 56 3 [(.slice none 0 0), (.slice none 0 0), (.slice none 0 0)]),
             o0 (.store 3 (.t 7) (.t 15))])
            (.seq (.reg [o1 16 (.mv (.t 0)),
              o1 17 (.faddr 0 (.t 7)),
              o1 18 (.load none (.t 17)),
              o1 19 (.faddr 1 (.t 7)),
              o1 20 (.load none (.t 19)),
              o1 21 (.call (.f 54) [(.t 16), (.t 18), (.t 20)]),
              o1 22 (.lenL (.t 21)),
              o1 23 (.mv (cI 0))])
             (.block 2 (.loop (.seq (.reg [o1 24 (.bin .lss (.t 23) (.t 22))])
                (.seq (.cond (.t 24) (.skip) (.exit 2))
                 (.seq (.block 3 (.seq (.reg [o1 25 (.mv (.t 23)),
                     o1 26 (.iaddr 1 (.t 21) (.t 23)),
                     o1 27 (.load none (.t 26)),
                     o1 8 (.mv (.t 25)),
                     o1 9 (.mv (.t 27))])
                    (.seq (.reg [o1 28 (.mv (.t 9)),
                      o1 29 (.faddr 2 (.t 7)),
                      o1 30 (.load none (.t 29)),
                      o1 31 (.mv (.t 8)),
                      o1 32 (.iaddr 1 (.t 30) (.t 31)),
                      o1 33 (.load none (.t 32)),
                      o1 34 (.bin .neq (.t 28) (.t 33))])
                     (.cond (.t 34) (.reg [o1 35 (.mv (.t 5)),
                       o1 36 (.bin .add (.t 35) (cI 1)),
                       o1 5 (.mv (.t 36))]) (.skip)))))
                  (.reg [o1 37 (.bin .add (.t 23) (cI 1)),
                   o1 23 (.mv (.t 37))])))))))))
          (.reg [o1 38 (.bin .add (.t 12) (cI 1)),
           o1 12 (.mv (.t 38))])))))))
    (.seq (.reg [o1 39 (.mv (.t 5)),
      o1 4 (.mv (.t 39))])
     (.ret))))
theorem s57_ok : lookF Try.prog 57 = some (s57, 40, [.tmp 4]) := by kernel_rfl
theorem wrong_ok (l : List Change) (ls : List Lesson) (hk : ∀ c ∈ l, KdC c) (h : OkLs ls) : Fn P 57 [sl l, sl ls] (intA (wrongL l ls)) := by
  have hls := h.1
  (refine fn_look s57_ok (by simp) (by intro k; simp only [go_sem, Nat.reduceEqDiff, ↓reduceIte, reduceCtorEq, Nat.reduceAdd, Nat.reduceMul, Int.reduceToNat, List.reduceReplicate, Nat.reduceLeDiff, Nat.reduceLT, Int.reduceLT, Int.reduceLE, Int.reduceEq]) fun S hS => cwp_sound _ _ _ _ ?_; simp (maxSteps := 900000) (disch := omega) only [s57, go_sem, Nat.reduceEqDiff, ↓reduceIte, reduceCtorEq, Nat.reduceAdd, Nat.reduceMul, Int.reduceToNat, List.reduceReplicate, Nat.reduceLeDiff, Nat.reduceLT, Int.reduceLT, Int.reduceLE, Int.reduceEq])
  repeat' (first | with_reducible refine inw ?_ | simp (maxSteps := 900000) (disch := omega) only [go_sem, Nat.reduceEqDiff, ↓reduceIte, reduceCtorEq, Nat.reduceAdd, Nat.reduceMul, Int.reduceToNat, List.reduceReplicate, Nat.reduceLeDiff, Nat.reduceLT, Int.reduceLT, Int.reduceLE, Int.reduceEq] | with_reducible refine giv_intro fun _h => ?_ | with_reducible refine alt_intro ?_ fun _h => ?_ | with_reducible refine pickD_nil ?_ | (with_reducible refine brc (fun _h => ?_) fun _h => ?_) <;> first | (exfalso; omega) | simp only [decide_eq_false _h] | simp only [(_h : (_ : Bool) = _)] | simp only [decide_eq_true _h] | skip)
  (refine loopC hS [0, 10, 11] (by simp only [go_sem, Nat.reduceEqDiff, ↓reduceIte, reduceCtorEq, Nat.reduceAdd, Nat.reduceMul, Int.reduceToNat, List.reduceReplicate, Nat.reduceLeDiff, Nat.reduceLT, Int.reduceLT, Int.reduceLE, Int.reduceEq]; try rfl) (fun (i : Nat) => [(5, intA (wrF l ls i : Nat)), (12, intA i)]) (fun (i : Nat) => []) (fun (i : Nat) => i ≤ ls.length) (fun (i : Nat) => ls.length - i) (0) ?h01 ?hn1 ?rd1; case hn1 => (intro s; first | rfl | (rcases s with ⟨_, _⟩; rfl) | (rcases s with ⟨_, _, _⟩; rfl) | (rcases s with ⟨_, _, _, _⟩; rfl) | (rcases s with ⟨_, _, _, _, _⟩; rfl)))
  · simp (maxSteps := 900000) (disch := omega) only [go_sem, Nat.reduceEqDiff, ↓reduceIte, reduceCtorEq, Nat.reduceAdd, Nat.reduceMul, Int.reduceToNat, List.reduceReplicate, Nat.reduceLeDiff, Nat.reduceLT, Int.reduceLT, Int.reduceLE, Int.reduceEq]; simp [wrF]
  rintro i hi
  replace hi : i ≤ ls.length := hi
  have hw := wrF_le (l := l) h hi
  by_cases hil : i < ls.length
  · obtain ⟨g1, g2, g3⟩ := h.2 _ (nth_mem hil)
    have c1 := run_ok l (nth ls i).1 (nth ls i).2.1 (by omega) hk
    have hr := runL_len l (nth ls i).1 (nth ls i).2.1
    have hs : wrF l ls (i + 1) = wrF l ls i + misL l (nth ls i) := rfl
    rw [misL] at hs
    generalize runL l (nth ls i).1 (nth ls i).2.1 = g at *
    repeat' (first | with_reducible refine inw ?_ | simp (maxSteps := 900000) (disch := omega) only [go_sem, Nat.reduceEqDiff, ↓reduceIte, reduceCtorEq, Nat.reduceAdd, Nat.reduceMul, Int.reduceToNat, List.reduceReplicate, Nat.reduceLeDiff, Nat.reduceLT, Int.reduceLT, Int.reduceLE, Int.reduceEq] | (with_reducible apply call (c1)); (focus simp (maxSteps := 900000) (disch := omega) only [go_sem, Nat.reduceEqDiff, ↓reduceIte, reduceCtorEq, Nat.reduceAdd, Nat.reduceMul, Int.reduceToNat, List.reduceReplicate, Nat.reduceLeDiff, Nat.reduceLT, Int.reduceLT, Int.reduceLE, Int.reduceEq] <;> rfl) | with_reducible refine giv_intro fun _h => ?_ | with_reducible refine alt_intro ?_ fun _h => ?_ | with_reducible refine pickD_nil ?_ | (with_reducible refine brc (fun _h => ?_) fun _h => ?_) <;> first | (exfalso; omega) | simp only [decide_eq_false _h] | simp only [(_h : (_ : Bool) = _)] | simp only [decide_eq_true _h] | skip)
    (refine loopC hS [0, 7, 10, 11, 12, 21, 22] (by simp only [go_sem, Nat.reduceEqDiff, ↓reduceIte, reduceCtorEq, Nat.reduceAdd, Nat.reduceMul, Int.reduceToNat, List.reduceReplicate, Nat.reduceLeDiff, Nat.reduceLT, Int.reduceLT, Int.reduceLE, Int.reduceEq]; try rfl) (fun (k : Nat) => [(5, intA ((wrF l ls i + misN g (nth ls i).2.2 k : Nat) : Int)), (23, intA k)]) (fun (k : Nat) => [some (Ob.row 56 3 [sl (nth ls i).1, sl (nth ls i).2.1, sl (nth ls i).2.2])]) (fun (k : Nat) => k ≤ g.length) (fun (k : Nat) => g.length - k) (0) ?h02 ?hn2 ?rd2; case hn2 => (intro s; first | rfl | (rcases s with ⟨_, _⟩; rfl) | (rcases s with ⟨_, _, _⟩; rfl) | (rcases s with ⟨_, _, _, _⟩; rfl) | (rcases s with ⟨_, _, _, _, _⟩; rfl)))
    · simp (maxSteps := 900000) (disch := omega) only [go_sem, Nat.reduceEqDiff, ↓reduceIte, reduceCtorEq, Nat.reduceAdd, Nat.reduceMul, Int.reduceToNat, List.reduceReplicate, Nat.reduceLeDiff, Nat.reduceLT, Int.reduceLT, Int.reduceLE, Int.reduceEq]; simp [misN]
    rintro k hk2
    replace hk2 : k ≤ g.length := hk2
    have hm := misN_le g (nth ls i).2.2 k
    have hs2 : misN g (nth ls i).2.2 (k + 1) = misN g (nth ls i).2.2 k + if nth g k ≠ nth (nth ls i).2.2 k then 1 else 0 := rfl
    by_cases hkl : k < g.length
    · repeat' (first | with_reducible refine inw ?_ | simp (maxSteps := 900000) (disch := omega) only [go_sem, Nat.reduceEqDiff, ↓reduceIte, reduceCtorEq, Nat.reduceAdd, Nat.reduceMul, Int.reduceToNat, List.reduceReplicate, Nat.reduceLeDiff, Nat.reduceLT, Int.reduceLT, Int.reduceLE, Int.reduceEq] | with_reducible refine giv_intro fun _h => ?_ | with_reducible refine alt_intro ?_ fun _h => ?_ | with_reducible refine pickD_nil ?_ | (with_reducible refine brc (fun _h => ?_) fun _h => ?_) <;> first | (exfalso; omega) | simp only [decide_eq_false _h] | simp only [(_h : (_ : Bool) = _)] | simp only [decide_eq_true _h] | skip)
      · rw [if_pos _h] at hs2
        exact ⟨k + 1, ⟨by omega, by omega⟩, by omega, by omega⟩
      · rw [if_neg (by simpa using _h)] at hs2
        exact ⟨k + 1, ⟨by omega, by omega⟩, by omega, by omega⟩
    · have : k = (nth ls i).2.1.length := by omega
      subst this
      repeat' (first | with_reducible refine inw ?_ | simp (maxSteps := 900000) (disch := omega) only [go_sem, Nat.reduceEqDiff, ↓reduceIte, reduceCtorEq, Nat.reduceAdd, Nat.reduceMul, Int.reduceToNat, List.reduceReplicate, Nat.reduceLeDiff, Nat.reduceLT, Int.reduceLT, Int.reduceLE, Int.reduceEq] | with_reducible refine giv_intro fun _h => ?_ | with_reducible refine alt_intro ?_ fun _h => ?_ | with_reducible refine pickD_nil ?_ | (with_reducible refine brc (fun _h => ?_) fun _h => ?_) <;> first | (exfalso; omega) | simp only [decide_eq_false _h] | simp only [(_h : (_ : Bool) = _)] | simp only [decide_eq_true _h] | skip)
      exact ⟨i + 1, ⟨by omega, by omega⟩, by omega, by omega⟩
  · have : i = ls.length := by omega
    subst this
    repeat' (first | with_reducible refine inw ?_ | simp (maxSteps := 900000) (disch := omega) only [go_sem, Nat.reduceEqDiff, ↓reduceIte, reduceCtorEq, Nat.reduceAdd, Nat.reduceMul, Int.reduceToNat, List.reduceReplicate, Nat.reduceLeDiff, Nat.reduceLT, Int.reduceLT, Int.reduceLE, Int.reduceEq] | with_reducible refine giv_intro fun _h => ?_ | with_reducible refine alt_intro ?_ fun _h => ?_ | with_reducible refine pickD_nil ?_ | (with_reducible refine brc (fun _h => ?_) fun _h => ?_) <;> first | (exfalso; omega) | simp only [decide_eq_false _h] | simp only [(_h : (_ : Bool) = _)] | simp only [decide_eq_true _h] | skip)
    rfl
def gnN (c : Change) (x : Lesson) : Nat → Int
  | 0 => 0
  | k + 1 => gnN c x k + (if appB c x.1 x.2.1 k = true then (if nth x.2.2 k = c.2.1 then 1 else 0) - (if nth x.2.2 k = c.1 then 1 else 0) else 0)
theorem gnN_le (c : Change) (x : Lesson) : ∀ k : Nat, -(k : Int) ≤ gnN c x k ∧ gnN c x k ≤ k
  | 0 => by simp [gnN]
  | k + 1 => by have := gnN_le c x k; rw [gnN]; split <;> (try split) <;> (try split) <;> omega
def gnF (c : Change) (ls : List Lesson) : Nat → Int
  | 0 => 0
  | i + 1 => gnF c ls i + gnN c (nth ls i) (nth ls i).2.2.length
def gainL (c : Change) (ls : List Lesson) : Int := gnF c ls ls.length
theorem gnF_le {c : Change} {ls : List Lesson} (h : OkLs ls) : ∀ {i : Nat}, i ≤ ls.length → -(i * 200 : Int) ≤ gnF c ls i ∧ gnF c ls i ≤ i * 200
  | 0, _ => by simp [gnF]
  | i + 1, hi => by
    have h1 := gnF_le (c := c) h (i := i) (by omega)
    have h2 := gnN_le c (nth ls i) (nth ls i).2.2.length
    have h3 := h.2 _ (nth_mem (l := ls) (i := i) (by omega))
    rw [gnF]; omega
/-- ablaut/learn.gain: 2 parameters, 0 captured -/
def s44 : SC := .seq (.reg [o1 2 (.box 32 4 (.t 0)),
   o1 4 (.mv (cI 0))])
  (.seq (.reg [o1 5 (.mv (cI 0))])
   (.seq (.seq (.reg [o1 10 (.mv (.t 1)),
      o1 11 (.lenL (.t 10)),
      o1 12 (.mv (cI 0))])
     (.block 0 (.loop (.seq (.reg [o1 13 (.bin .lss (.t 12) (.t 11))])
        (.seq (.cond (.t 13) (.skip) (.exit 0))
         (.seq (.block 1 (.seq (.reg [o1 14 (.iaddr 3 (.t 10) (.t 12)),
             o1 15 (.load (some 3) (.t 14)),
             o1 7 (.alloc 56 3 [(.slice none 0 0), (.slice none 0 0), (.slice none 0 0)]),
             o0 (.store 3 (.t 7) (.t 15))])
            (.seq (.reg [o1 16 (.faddr 2 (.t 7)),
              o1 17 (.load none (.t 16)),
              o1 18 (.lenL (.t 17)),
              o1 19 (.mv (cI 0))])
             (.block 2 (.loop (.seq (.reg [o1 20 (.bin .lss (.t 19) (.t 18))])
                (.seq (.cond (.t 20) (.skip) (.exit 2))
                 (.seq (.block 3 (.seq (.reg [o1 21 (.mv (.t 19)),
                     o1 22 (.iaddr 1 (.t 17) (.t 19)),
                     o1 23 (.load none (.t 22)),
                     o1 8 (.mv (.t 21)),
                     o1 9 (.mv (.t 23))])
                    (.seq (.seq (.reg [o1 24 (.load (some 4) (.t 2)),
                       o1 25 (.faddr 0 (.t 7)),
                       o1 26 (.load none (.t 25)),
                       o1 27 (.faddr 1 (.t 7)),
                       o1 28 (.load none (.t 27)),
                       o1 29 (.mv (.t 8)),
                       o1 30 (.call (.f 49) [(.t 24), (.t 26), (.t 28), (.t 29)]),
                       o1 31 (.un .not (.t 30))])
                      (.cond (.t 31) (.exit 3) (.skip)))
                     (.seq (.seq (.reg [o1 32 (.mv (.t 9)),
                        o1 33 (.faddr 1 (.t 2)),
                        o1 34 (.load none (.t 33)),
                        o1 35 (.bin .eql (.t 32) (.t 34))])
                       (.cond (.t 35) (.reg [o1 36 (.mv (.t 5)),
                         o1 37 (.bin .add (.t 36) (cI 1)),
                         o1 5 (.mv (.t 37))]) (.skip)))
                      (.seq (.reg [o1 38 (.mv (.t 9)),
                        o1 39 (.faddr 0 (.t 2)),
                        o1 40 (.load none (.t 39)),
                        o1 41 (.bin .eql (.t 38) (.t 40))])
                       (.cond (.t 41) (.reg [o1 42 (.mv (.t 5)),
                         o1 43 (.bin .sub (.t 42) (cI 1)),
                         o1 5 (.mv (.t 43))]) (.skip)))))))
                  (.reg [o1 44 (.bin .add (.t 19) (cI 1)),
                   o1 19 (.mv (.t 44))])))))))))
          (.reg [o1 45 (.bin .add (.t 12) (cI 1)),
           o1 12 (.mv (.t 45))])))))))
    (.seq (.reg [o1 46 (.mv (.t 5)),
      o1 4 (.mv (.t 46))])
     (.ret))))
theorem s44_ok : lookF Try.prog 44 = some (s44, 47, [.tmp 4]) := by kernel_rfl
set_option maxHeartbeats 1000000 in
theorem gain_ok (c : Change) (ls : List Lesson) (hk : KdC c) (h : OkLs ls) : Fn P 44 [chA c, sl ls] (intA (gainL c ls)) := by
  have hls := h.1
  (refine fn_look s44_ok (by simp) (by intro k; simp only [go_sem, Nat.reduceEqDiff, ↓reduceIte, reduceCtorEq, Nat.reduceAdd, Nat.reduceMul, Int.reduceToNat, List.reduceReplicate, Nat.reduceLeDiff, Nat.reduceLT, Int.reduceLT, Int.reduceLE, Int.reduceEq]) fun S hS => cwp_sound _ _ _ _ ?_; simp (maxSteps := 900000) (disch := omega) only [s44, go_sem, Nat.reduceEqDiff, ↓reduceIte, reduceCtorEq, Nat.reduceAdd, Nat.reduceMul, Int.reduceToNat, List.reduceReplicate, Nat.reduceLeDiff, Nat.reduceLT, Int.reduceLT, Int.reduceLE, Int.reduceEq])
  repeat' (first | with_reducible refine inw ?_ | simp (maxSteps := 900000) (disch := omega) only [go_sem, Nat.reduceEqDiff, ↓reduceIte, reduceCtorEq, Nat.reduceAdd, Nat.reduceMul, Int.reduceToNat, List.reduceReplicate, Nat.reduceLeDiff, Nat.reduceLT, Int.reduceLT, Int.reduceLE, Int.reduceEq] | with_reducible refine giv_intro fun _h => ?_ | with_reducible refine alt_intro ?_ fun _h => ?_ | with_reducible refine pickD_nil ?_ | (with_reducible refine brc (fun _h => ?_) fun _h => ?_) <;> first | (exfalso; omega) | simp only [decide_eq_false _h] | simp only [(_h : (_ : Bool) = _)] | simp only [decide_eq_true _h] | skip)
  (refine loopC hS [2, 10, 11] (by simp only [go_sem, Nat.reduceEqDiff, ↓reduceIte, reduceCtorEq, Nat.reduceAdd, Nat.reduceMul, Int.reduceToNat, List.reduceReplicate, Nat.reduceLeDiff, Nat.reduceLT, Int.reduceLT, Int.reduceLE, Int.reduceEq]; try rfl) (fun (i : Nat) => [(5, intA (gnF c ls i)), (12, intA i)]) (fun (i : Nat) => [some (Ob.row 32 4 [strA c.1, strA c.2.1, intA c.2.2.1, strA c.2.2.2])]) (fun (i : Nat) => i ≤ ls.length) (fun (i : Nat) => ls.length - i) (0) ?h05 ?hn5 ?rd5; case hn5 => (intro s; first | rfl | (rcases s with ⟨_, _⟩; rfl) | (rcases s with ⟨_, _, _⟩; rfl) | (rcases s with ⟨_, _, _, _⟩; rfl) | (rcases s with ⟨_, _, _, _, _⟩; rfl)))
  · simp (maxSteps := 900000) (disch := omega) only [go_sem, Nat.reduceEqDiff, ↓reduceIte, reduceCtorEq, Nat.reduceAdd, Nat.reduceMul, Int.reduceToNat, List.reduceReplicate, Nat.reduceLeDiff, Nat.reduceLT, Int.reduceLT, Int.reduceLE, Int.reduceEq]; simp [gnF]
  rintro i hi
  replace hi : i ≤ ls.length := hi
  have hw := gnF_le (c := c) h hi
  by_cases hil : i < ls.length
  · obtain ⟨g1, g2, g3⟩ := h.2 _ (nth_mem hil)
    have hs : gnF c ls (i + 1) = gnF c ls i + gnN c (nth ls i) (nth ls i).2.2.length := rfl
    repeat' (first | with_reducible refine inw ?_ | simp (maxSteps := 900000) (disch := omega) only [go_sem, Nat.reduceEqDiff, ↓reduceIte, reduceCtorEq, Nat.reduceAdd, Nat.reduceMul, Int.reduceToNat, List.reduceReplicate, Nat.reduceLeDiff, Nat.reduceLT, Int.reduceLT, Int.reduceLE, Int.reduceEq] | with_reducible refine giv_intro fun _h => ?_ | with_reducible refine alt_intro ?_ fun _h => ?_ | with_reducible refine pickD_nil ?_ | (with_reducible refine brc (fun _h => ?_) fun _h => ?_) <;> first | (exfalso; omega) | simp only [decide_eq_false _h] | simp only [(_h : (_ : Bool) = _)] | simp only [decide_eq_true _h] | skip)
    (refine loopC hS [2, 7, 10, 11, 12, 17, 18] (by simp only [go_sem, Nat.reduceEqDiff, ↓reduceIte, reduceCtorEq, Nat.reduceAdd, Nat.reduceMul, Int.reduceToNat, List.reduceReplicate, Nat.reduceLeDiff, Nat.reduceLT, Int.reduceLT, Int.reduceLE, Int.reduceEq]; try rfl) (fun (k : Nat) => [(5, intA (gnF c ls i + gnN c (nth ls i) k)), (19, intA k)]) (fun (k : Nat) => [some (Ob.row 32 4 [strA c.1, strA c.2.1, intA c.2.2.1, strA c.2.2.2]), some (Ob.row 56 3 [sl (nth ls i).1, sl (nth ls i).2.1, sl (nth ls i).2.2])]) (fun (k : Nat) => k ≤ (nth ls i).2.2.length) (fun (k : Nat) => (nth ls i).2.2.length - k) (0) ?h06 ?hn6 ?rd6; case hn6 => (intro s; first | rfl | (rcases s with ⟨_, _⟩; rfl) | (rcases s with ⟨_, _, _⟩; rfl) | (rcases s with ⟨_, _, _, _⟩; rfl) | (rcases s with ⟨_, _, _, _, _⟩; rfl)))
    · simp (maxSteps := 900000) (disch := omega) only [go_sem, Nat.reduceEqDiff, ↓reduceIte, reduceCtorEq, Nat.reduceAdd, Nat.reduceMul, Int.reduceToNat, List.reduceReplicate, Nat.reduceLeDiff, Nat.reduceLT, Int.reduceLT, Int.reduceLE, Int.reduceEq]; simp [gnN]
    rintro k hk2
    replace hk2 : k ≤ (nth ls i).2.2.length := hk2
    have hm := gnN_le c (nth ls i) k
    have hs2 : gnN c (nth ls i) (k + 1) = gnN c (nth ls i) k + (if appB c (nth ls i).1 (nth ls i).2.1 k = true then (if nth (nth ls i).2.2 k = c.2.1 then 1 else 0) - (if nth (nth ls i).2.2 k = c.1 then 1 else 0) else 0) := rfl
    by_cases hkl : k < (nth ls i).2.2.length
    · have c1 := applies_ok c (nth ls i).1 (nth ls i).2.1 k (by omega) (by omega) hk.1
      repeat' (first | with_reducible refine inw ?_ | simp (maxSteps := 900000) (disch := omega) only [go_sem, Nat.reduceEqDiff, ↓reduceIte, reduceCtorEq, Nat.reduceAdd, Nat.reduceMul, Int.reduceToNat, List.reduceReplicate, Nat.reduceLeDiff, Nat.reduceLT, Int.reduceLT, Int.reduceLE, Int.reduceEq] | (with_reducible apply call (c1)); (focus simp (maxSteps := 900000) (disch := omega) only [go_sem, Nat.reduceEqDiff, ↓reduceIte, reduceCtorEq, Nat.reduceAdd, Nat.reduceMul, Int.reduceToNat, List.reduceReplicate, Nat.reduceLeDiff, Nat.reduceLT, Int.reduceLT, Int.reduceLE, Int.reduceEq] <;> rfl) | with_reducible refine giv_intro fun _h => ?_ | with_reducible refine alt_intro ?_ fun _h => ?_ | with_reducible refine pickD_nil ?_ | (with_reducible refine brc (fun _h => ?_) fun _h => ?_) <;> first | (exfalso; omega) | simp only [decide_eq_false _h] | simp only [(_h : (_ : Bool) = _)] | simp only [decide_eq_true _h] | skip)
      all_goals (refine ⟨k + 1, ⟨by omega, by omega⟩, ?_, by omega⟩; rw [hs2])
      all_goals first
        | (simp [*]; done)
        | (repeat' split) <;> first | omega | (exfalso; simp_all; done)
    · have : k = (nth ls i).2.2.length := by omega
      subst this
      repeat' (first | with_reducible refine inw ?_ | simp (maxSteps := 900000) (disch := omega) only [go_sem, Nat.reduceEqDiff, ↓reduceIte, reduceCtorEq, Nat.reduceAdd, Nat.reduceMul, Int.reduceToNat, List.reduceReplicate, Nat.reduceLeDiff, Nat.reduceLT, Int.reduceLT, Int.reduceLE, Int.reduceEq] | with_reducible refine giv_intro fun _h => ?_ | with_reducible refine alt_intro ?_ fun _h => ?_ | with_reducible refine pickD_nil ?_ | (with_reducible refine brc (fun _h => ?_) fun _h => ?_) <;> first | (exfalso; omega) | simp only [decide_eq_false _h] | simp only [(_h : (_ : Bool) = _)] | simp only [decide_eq_true _h] | skip)
      exact ⟨i + 1, ⟨by omega, by omega⟩, by omega, by omega⟩
  · have : i = ls.length := by omega
    subst this
    repeat' (first | with_reducible refine inw ?_ | simp (maxSteps := 900000) (disch := omega) only [go_sem, Nat.reduceEqDiff, ↓reduceIte, reduceCtorEq, Nat.reduceAdd, Nat.reduceMul, Int.reduceToNat, List.reduceReplicate, Nat.reduceLeDiff, Nat.reduceLT, Int.reduceLT, Int.reduceLE, Int.reduceEq] | with_reducible refine giv_intro fun _h => ?_ | with_reducible refine alt_intro ?_ fun _h => ?_ | with_reducible refine pickD_nil ?_ | (with_reducible refine brc (fun _h => ?_) fun _h => ?_) <;> first | (exfalso; omega) | simp only [decide_eq_false _h] | simp only [(_h : (_ : Bool) = _)] | simp only [decide_eq_true _h] | skip)
    rfl
end Go.Proofs.Ytapgimibdamjoaa.Ev

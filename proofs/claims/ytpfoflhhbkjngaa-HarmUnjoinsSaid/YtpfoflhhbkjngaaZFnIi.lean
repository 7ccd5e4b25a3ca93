/- All pairs of words that are joined to a word: the program. -/
import Derived.Test.YtpfoflhhbkjngaaZFnIh
import Derived.Test.YtpfoflhhbkjngaaZFnIb
import Derived.Test.YtpfoflhhbkjngaaZFnIj
import Derived.Test.YtpfoflhhbkjngaaZEvZo
import Derived.Test.YtpfoflhhbkjngaaZLaySortP
set_option linter.unusedVariables false
set_option linter.unusedSimpArgs false
namespace Go.Proofs.Ytpfoflhhbkjngaa.Ev
open Go Go.Proofs

theorem atPr_snoc (l : List Joint) (w : List Str) (p : Nat) (js : List Joint) (j : Joint) : atPr l w p (js ++ [j]) = atPr l w p js ++ if (fitsPr j w p && okPr l w (cutPr j w p)) = true then [cutPr j w p] else [] := by
  unfold atPr
  rw [List.filter_append, List.map_append]
  congr 1
  by_cases h : (fitsPr j w p && okPr l w (cutPr j w p)) = true
  · rw [if_pos h]; simp only [List.filter_cons, h, if_true, List.filter_nil, List.map_cons, List.map_nil]
  · rw [if_neg h]; simp only [List.filter_cons, h, Bool.false_eq_true, if_false, List.filter_nil, List.map_nil]
theorem cut_zJ (w : List Str) (p : Nat) : cutPr zJ w p = (w.take p, w.drop p) := by simp [cutPr, zJ]
theorem fits_zJ {w : List Str} {p : Nat} (h : p ≤ w.length) : fitsPr zJ w p = true := by simp [fitsPr, zJ, h]
theorem fits_beg {j : Joint} {w : List Str} {p : Nat} (h : p ≤ w.length) : fitsPr j w p = begB (w.drop p) j.2.2 := by
  unfold fitsPr begB
  congr 1
  rw [List.length_drop]
  exact decide_eq_decide.2 (by omega)
theorem atPr_len (l : List Joint) (w : List Str) (p : Nat) (js : List Joint) : (atPr l w p js).length ≤ js.length := by
  unfold atPr; rw [List.length_map]; exact List.length_filter_le _ _
def outH (l : List Joint) (w : List Str) (p : Nat) : List Pr := (List.range p).flatMap fun q => atPr l w q (zJ :: l)
theorem outH_succ (l : List Joint) (w : List Str) (p : Nat) : outH l w (p + 1) = outH l w p ++ atPr l w p (zJ :: l) := by
  unfold outH; rw [List.range_succ, List.flatMap_append]; simp
theorem outH_len (l : List Joint) (w : List Str) : ∀ p, (outH l w p).length ≤ p * (l.length + 1)
  | 0 => by simp [outH]
  | p + 1 => by
    have h1 := outH_len l w p
    have h2 := atPr_len l w p (zJ :: l)
    rw [List.length_cons] at h2
    rw [outH_succ, List.length_append, Nat.add_mul]; omega
/-- The pairs so far, at place p behind k joints. -/
def outK (l : List Joint) (w : List Str) (p k : Nat) : List Pr := outH l w p ++ atPr l w p (zJ :: l.take k)
theorem zc_two (z : Value) (n : Nat) : zcells [z, z] n = List.replicate n (.sc z) := by
  unfold zcells
  refine List.ext_getElem (by simp) fun i h1 h2 => ?_
  rcases Nat.mod_two_eq_zero_or_one i with h | h <;> simp [h]
theorem seenRow_q {α : Type} {k : Nat} [Enc α k] {e n tot : Nat} {cs : List AV} {l : List α} {D : Nat → Bool} {S : St} {d : Nat} (h1 : n = l.length) (h2 : n * k ≤ tot) (h3 : cs.take (n * k) = cellsL l) : seenRow (some (e, k, cs)) 0 n tot (seen D S d) = sl l := by
  simp only [seenRow, Nat.zero_add, h2, if_true, List.drop_zero]
  rw [h3, seen_cellsL, h1]
/-- ablaut/harm.Unsandhi$2: 2 parameters, 0 captured -/
def s89 : SC := .seq (.reg [o1 2 (.box 47 2 (.t 0)),
   o1 3 (.box 47 2 (.t 1)),
   o1 4 (.mv (cI 0))])
  (.seq (.seq (.reg [o1 6 (.iaddrA 2 1 (.t 2) (cI 0)),
     o1 7 (.load none (.t 6)),
     o1 8 (.iaddrA 2 1 (.t 3) (cI 0)),
     o1 9 (.load none (.t 8)),
     o1 10 (.call (.f 90) [(.t 7), (.t 9)]),
     o1 5 (.mv (.t 10))])
    (.seq (.reg [o1 11 (.mv (.t 5)),
      o1 12 (.bin .neq (.t 11) (cI 0))])
     (.cond (.t 12) (.seq (.reg [o1 13 (.mv (.t 5)),
        o1 4 (.mv (.t 13))])
       (.ret)) (.skip))))
   (.seq (.reg [o1 14 (.iaddrA 2 1 (.t 2) (cI 1)),
     o1 15 (.load none (.t 14)),
     o1 16 (.iaddrA 2 1 (.t 3) (cI 1)),
     o1 17 (.load none (.t 16)),
     o1 18 (.call (.f 90) [(.t 15), (.t 17)]),
     o1 4 (.mv (.t 18))])
    (.ret)))
theorem s89_ok : lookF Try.prog 89 = some (s89, 19, [.tmp 4]) := by kernel_rfl
theorem uns2_ok (p q : Pr) (hp : p.1.length ≤ 1000 ∧ p.2.length ≤ 1000) (hq : q.1.length ≤ 1000 ∧ q.2.length ≤ 1000) : Fn P 89 [valA p, valA q] (intA (cmpPr p q)) := by
  have c1 := sCompare_ok p.1 q.1 (by omega) (by omega)
  have c2 := sCompare_ok p.2 q.2 (by omega) (by omega)
  unfold cmpPr
  (refine fn_look s89_ok (by simp) (by intro k; simp only [go_sem, Nat.reduceEqDiff, ↓reduceIte, reduceCtorEq, Nat.reduceAdd, Nat.reduceMul, Int.reduceToNat, List.reduceReplicate, Nat.reduceLeDiff, Nat.reduceLT, Int.reduceLT, Int.reduceLE, Int.reduceEq]) fun S hS => cwp_sound _ _ _ _ ?_; simp (maxSteps := 900000) (disch := omega) only [s89, go_sem, Nat.reduceEqDiff, ↓reduceIte, reduceCtorEq, Nat.reduceAdd, Nat.reduceMul, Int.reduceToNat, List.reduceReplicate, Nat.reduceLeDiff, Nat.reduceLT, Int.reduceLT, Int.reduceLE, Int.reduceEq])
  by_cases h : compL p.1 q.1 ≠ 0
  · rw [if_pos h]
    repeat' (first | with_reducible refine inw ?_ | simp (maxSteps := 900000) (disch := omega) only [go_sem, Nat.reduceEqDiff, ↓reduceIte, reduceCtorEq, Nat.reduceAdd, Nat.reduceMul, Int.reduceToNat, List.reduceReplicate, Nat.reduceLeDiff, Nat.reduceLT, Int.reduceLT, Int.reduceLE, Int.reduceEq] | (with_reducible apply call (c1)); (focus simp (maxSteps := 900000) (disch := omega) only [go_sem, Nat.reduceEqDiff, ↓reduceIte, reduceCtorEq, Nat.reduceAdd, Nat.reduceMul, Int.reduceToNat, List.reduceReplicate, Nat.reduceLeDiff, Nat.reduceLT, Int.reduceLT, Int.reduceLE, Int.reduceEq] <;> rfl) | (with_reducible apply call (c2)); (focus simp (maxSteps := 900000) (disch := omega) only [go_sem, Nat.reduceEqDiff, ↓reduceIte, reduceCtorEq, Nat.reduceAdd, Nat.reduceMul, Int.reduceToNat, List.reduceReplicate, Nat.reduceLeDiff, Nat.reduceLT, Int.reduceLT, Int.reduceLE, Int.reduceEq] <;> rfl) | with_reducible refine pickB_f ?_ | with_reducible refine giv_intro fun _h => ?_ | with_reducible refine alt_intro ?_ fun _h => ?_ | with_reducible refine pickD_nil ?_ | (with_reducible refine brc (fun _h => ?_) fun _h => ?_) <;> first | (exfalso; omega) | simp only [decide_eq_false _h] | simp only [(_h : (_ : Bool) = _)] | simp only [decide_eq_true _h] | skip)
  · rw [if_neg h]
    repeat' (first | with_reducible refine inw ?_ | simp (maxSteps := 900000) (disch := omega) only [go_sem, Nat.reduceEqDiff, ↓reduceIte, reduceCtorEq, Nat.reduceAdd, Nat.reduceMul, Int.reduceToNat, List.reduceReplicate, Nat.reduceLeDiff, Nat.reduceLT, Int.reduceLT, Int.reduceLE, Int.reduceEq] | (with_reducible apply call (c1)); (focus simp (maxSteps := 900000) (disch := omega) only [go_sem, Nat.reduceEqDiff, ↓reduceIte, reduceCtorEq, Nat.reduceAdd, Nat.reduceMul, Int.reduceToNat, List.reduceReplicate, Nat.reduceLeDiff, Nat.reduceLT, Int.reduceLT, Int.reduceLE, Int.reduceEq] <;> rfl) | (with_reducible apply call (c2)); (focus simp (maxSteps := 900000) (disch := omega) only [go_sem, Nat.reduceEqDiff, ↓reduceIte, reduceCtorEq, Nat.reduceAdd, Nat.reduceMul, Int.reduceToNat, List.reduceReplicate, Nat.reduceLeDiff, Nat.reduceLT, Int.reduceLT, Int.reduceLE, Int.reduceEq] <;> rfl) | with_reducible refine pickB_f ?_ | with_reducible refine giv_intro fun _h => ?_ | with_reducible refine alt_intro ?_ fun _h => ?_ | with_reducible refine pickD_nil ?_ | (with_reducible refine brc (fun _h => ?_) fun _h => ?_) <;> first | (exfalso; omega) | simp only [decide_eq_false _h] | simp only [(_h : (_ : Bool) = _)] | simp only [decide_eq_true _h] | skip)
/-- ablaut/harm.Unsandhi$3: 2 parameters, 1 captured -/
def s93 : SC := .seq (.reg [o1 3 (.box 47 2 (.t 0)),
   o1 4 (.box 47 2 (.t 1)),
   o1 5 (.mv (cB false))])
  (.seq (.reg [o1 6 (.load none (.t 2)),
    o1 7 (.load (some 2) (.t 3)),
    o1 8 (.load (some 2) (.t 4)),
    o1 9 (.call (.t 6) [(.t 7), (.t 8)]),
    o1 10 (.bin .eql (.t 9) (cI 0)),
    o1 5 (.mv (.t 10))])
   (.ret))
theorem s93_ok : lookF Try.prog 93 = some (s93, 11, [.tmp 5]) := by kernel_rfl
theorem uns3_ok (p q : Pr) (hp : p.1.length ≤ 1000 ∧ p.2.length ≤ 1000) (hq : q.1.length ≤ 1000 ∧ q.2.length ≤ 1000) : Fn P 93 [valA p, valA q, .rop [.clo 89 []]] (boolA (decide (cmpPr p q = 0))) := by
  have c1 := uns2_ok p q hp hq
  (refine fn_look s93_ok (by simp) (by intro k; simp only [go_sem, Nat.reduceEqDiff, ↓reduceIte, reduceCtorEq, Nat.reduceAdd, Nat.reduceMul, Int.reduceToNat, List.reduceReplicate, Nat.reduceLeDiff, Nat.reduceLT, Int.reduceLT, Int.reduceLE, Int.reduceEq]) fun S hS => cwp_sound _ _ _ _ ?_; simp (maxSteps := 900000) (disch := omega) only [s93, go_sem, Nat.reduceEqDiff, ↓reduceIte, reduceCtorEq, Nat.reduceAdd, Nat.reduceMul, Int.reduceToNat, List.reduceReplicate, Nat.reduceLeDiff, Nat.reduceLT, Int.reduceLT, Int.reduceLE, Int.reduceEq])
  repeat' (first | with_reducible refine inw ?_ | simp (maxSteps := 900000) (disch := omega) only [go_sem, Nat.reduceEqDiff, ↓reduceIte, reduceCtorEq, Nat.reduceAdd, Nat.reduceMul, Int.reduceToNat, List.reduceReplicate, Nat.reduceLeDiff, Nat.reduceLT, Int.reduceLT, Int.reduceLE, Int.reduceEq] | (with_reducible apply call (c1)); (focus simp (maxSteps := 900000) (disch := omega) only [go_sem, Nat.reduceEqDiff, ↓reduceIte, reduceCtorEq, Nat.reduceAdd, Nat.reduceMul, Int.reduceToNat, List.reduceReplicate, Nat.reduceLeDiff, Nat.reduceLT, Int.reduceLT, Int.reduceLE, Int.reduceEq] <;> rfl) | with_reducible refine pickB_f ?_ | with_reducible refine giv_intro fun _h => ?_ | with_reducible refine alt_intro ?_ fun _h => ?_ | with_reducible refine pickD_nil ?_ | (with_reducible refine brc (fun _h => ?_) fun _h => ?_) <;> first | (exfalso; omega) | simp only [decide_eq_false _h] | simp only [(_h : (_ : Bool) = _)] | simp only [decide_eq_true _h] | skip)
  all_goals skip
/-- ablaut/harm.Unsandhi$1: 2 parameters, 3 captured -/
def s88 : SC := .seq (.seq (.regC [(false, o1 7 (.mv (.t 0))),
    (false, o1 8 (.lenL (.t 7))),
    (false, o1 9 (.bin .eql (.t 8) (cI 0))),
    (false, o1 10 (.mv (.t 9))),
    (false, oF 11 (.mv (.t 1)) 10),
    (false, oF 12 (.lenL (.t 11)) 10),
    (false, oF 13 (.bin .eql (.t 12) (cI 0)) 10),
    (false, o1 14 (.pick (.t 10) (cB true) (.t 13))),
    (false, o1 15 (.mv (.t 14))),
    (false, oF 16 (.mv (.t 0)) 15),
    (false, oF 17 (.lenL (.t 16)) 15),
    (false, oF 18 (.bin .gtr (.t 17) (cI 60)) 15),
    (false, o1 19 (.pick (.t 15) (cB true) (.t 18))),
    (false, o1 20 (.mv (.t 19))),
    (false, oF 21 (.mv (.t 1)) 20),
    (false, oF 22 (.lenL (.t 21)) 20),
    (false, oF 23 (.bin .gtr (.t 22) (cI 60)) 20),
    (false, o1 24 (.pick (.t 20) (cB true) (.t 23))),
    (false, o1 25 (.mv (.t 24))),
    (false, oF 26 (.load none (.t 2)) 25),
    (false, oF 27 (.mv (.t 0)) 25),
    (false, oF 28 (.mv (.t 1)) 25),
    (false, oF 29 (.call (.f 69) [(.t 26), (.t 27), (.t 28)]) 25),
    (false, oF 30 (.load none (.t 3)) 25),
    (true, oF 31 (.call (.f 59) [(.t 29), (.t 30)]) 25),
    (false, oF 32 (.un .not (.t 31)) 25),
    (false, o1 33 (.pick (.t 25) (cB true) (.t 32)))])
   (.cond (.t 33) (.ret) (.skip)))
  (.reg [o1 34 (.load none (.t 4)),
   o1 35 (.mv (.t 0)),
   o1 36 (.mv (.t 1)),
   o1 37 (.build [(.slice none 0 0), (.slice none 0 0)] [(0, 1, (.t 35)), (1, 1, (.t 36))]),
   o1 38 (.buildSl 47 2 1 [(.slice none 0 0), (.slice none 0 0)] [(0, 2, (.t 37))]),
   o1 39 (.app 47 2 48 (.t 34) (.t 38)),
   o0 (.store 1 (.t 4) (.t 39))])
theorem s88_ok : lookF Try.prog 88 = some (s88, 40, []) := by kernel_rfl
/-- ablaut/harm.Unsandhi: 2 parameters, 0 captured -/
def s44 : SC := .seq (.reg [o1 2 (.box 43 1 (.t 0)),
   o1 3 (.box 22 1 (.t 1)),
   o1 4 (.mv (.c (.slice none 0 0))),
   o1 5 (.mv (cI 0))])
  (.seq (.seq (.regC [(false, o1 13 (.load none (.t 2))),
     (false, o1 14 (.call (.f 67) [(.t 13)])),
     (false, o1 15 (.load none (.t 3))),
     (false, o1 16 (.buildSl 22 1 1 [(.slice none 0 0)] [(0, 1, (.t 15))])),
     (true, o1 17 (.call (.f 53) [(.t 16)])),
     (false, o1 18 (.buildSl 25 1 2 [(.int .i64 0)] [(0, 1, (.t 14)), (1, 1, (.t 17))])),
     (true, o1 19 (.call (.f 62) [(.t 18)])),
     (false, o1 6 (.mv (.t 19)))])
    (.seq (.reg [o1 20 (.mv (.t 6)),
      o1 21 (.bin .neq (.t 20) (cI 0))])
     (.cond (.t 21) (.seq (.reg [o1 22 (.mv (.t 6)),
        o1 4 (.mv (.c (.slice none 0 0))),
        o1 5 (.mv (.t 22))])
       (.ret)) (.skip))))
   (.seq (.seq (.reg [o1 23 (.load none (.t 3)),
      o1 24 (.lenL (.t 23)),
      o1 25 (.bin .gtr (.t 24) (cI 14))])
     (.cond (.t 25) (.seq (.reg [o1 4 (.mv (.c (.slice none 0 0))),
        o1 5 (.mv (cI 3))])
       (.ret)) (.skip)))
    (.seq (.reg [o1 7 (.alloc 59 1 [(.slice none 0 0)])])
     (.seq (.reg [o1 26 (.mkfunc 88 [(.t 2), (.t 3), (.t 7)]),
       o1 8 (.mv (.t 26))])
      (.seq (.seq (.reg [o1 27 (.load none (.t 3)),
         o1 28 (.lenL (.t 27)),
         o1 29 (.bin .add (.t 28) (cI 1)),
         o1 30 (.mv (cI 0))])
        (.block 0 (.loop (.seq (.reg [o1 31 (.bin .lss (.t 30) (.t 29))])
           (.seq (.cond (.t 31) (.skip) (.exit 0))
            (.seq (.block 1 (.seq (.reg [o1 32 (.mv (.t 30)),
                o1 9 (.mv (.t 32))])
               (.seq (.regC [(false, o1 33 (.mv (.t 8))),
                 (false, o1 34 (.load none (.t 3))),
                 (false, o1 35 (.mv (.t 9))),
                 (false, o1 36 (.sl 1 (.t 34) none (some (.t 35)))),
                 (false, o1 37 (.call (.f 79) [(.t 36)])),
                 (false, o1 38 (.load none (.t 3))),
                 (false, o1 39 (.mv (.t 9))),
                 (false, o1 40 (.sl 1 (.t 38) (some (.t 39)) none)),
                 (false, o1 41 (.call (.f 79) [(.t 40)])),
                 (true, o1 42 (.call (.t 33) [(.t 37), (.t 41)]))])
                (.seq (.reg [o1 43 (.load none (.t 2)),
                  o1 44 (.lenL (.t 43)),
                  o1 45 (.mv (cI 0))])
                 (.block 2 (.loop (.seq (.reg [o1 46 (.bin .lss (.t 45) (.t 44))])
                    (.seq (.cond (.t 46) (.skip) (.exit 2))
                     (.seq (.block 3 (.seq (.reg [o1 47 (.iaddr 3 (.t 43) (.t 45)),
                         o1 48 (.load (some 3) (.t 47)),
                         o1 11 (.alloc 83 3 [(.slice none 0 0), (.slice none 0 0), (.slice none 0 0)]),
                         o0 (.store 3 (.t 11) (.t 48))])
                        (.seq (.regC [(false, o1 49 (.load none (.t 3))),
                          (false, o1 50 (.mv (.t 9))),
                          (false, o1 51 (.sl 1 (.t 49) (some (.t 50)) none)),
                          (false, o1 52 (.faddr 2 (.t 11))),
                          (false, o1 53 (.load none (.t 52))),
                          (true, o1 54 (.call (.f 82) [(.t 51), (.t 53)]))])
                         (.cond (.t 54) (.regC [(false, o1 55 (.mv (.t 8))),
                           (false, o1 56 (.load none (.t 3))),
                           (false, o1 57 (.mv (.t 9))),
                           (false, o1 58 (.sl 1 (.t 56) none (some (.t 57)))),
                           (false, o1 59 (.faddr 0 (.t 11))),
                           (false, o1 60 (.load none (.t 59))),
                           (false, o1 61 (.buildSl 22 1 2 [(.slice none 0 0)] [(0, 1, (.t 58)), (1, 1, (.t 60))])),
                           (false, o1 62 (.call (.f 75) [(.t 61)])),
                           (false, o1 63 (.faddr 1 (.t 11))),
                           (false, o1 64 (.load none (.t 63))),
                           (false, o1 65 (.load none (.t 3))),
                           (false, o1 66 (.mv (.t 9))),
                           (false, o1 67 (.faddr 2 (.t 11))),
                           (false, o1 68 (.load none (.t 67))),
                           (false, o1 69 (.lenL (.t 68))),
                           (false, o1 70 (.bin .add (.t 66) (.t 69))),
                           (false, o1 71 (.sl 1 (.t 65) (some (.t 70)) none)),
                           (false, o1 72 (.buildSl 22 1 2 [(.slice none 0 0)] [(0, 1, (.t 64)), (1, 1, (.t 71))])),
                           (false, o1 73 (.call (.f 75) [(.t 72)])),
                           (true, o1 74 (.call (.t 55) [(.t 62), (.t 73)]))]) (.skip)))))
                      (.reg [o1 75 (.bin .add (.t 45) (cI 1)),
                       o1 45 (.mv (.t 75))]))))))))))
             (.reg [o1 76 (.bin .add (.t 30) (cI 1)),
              o1 30 (.mv (.t 76))])))))))
       (.seq (.reg [o1 12 (.alloc 104 1 [.nilFunc]),
         o0 (.store 1 (.t 12) (.f 89))])
        (.seq (.reg [o1 77 (.load none (.t 7)),
          o1 78 (.load none (.t 12)),
          o1 79 (.call (.f 91) [(.t 77), (.t 78)])])
         (.seq (.reg [o1 80 (.load none (.t 7)),
           o1 81 (.mkfunc 93 [(.t 12)]),
           o1 82 (.call (.f 92) [(.t 80), (.t 81)]),
           o1 4 (.mv (.t 82)),
           o1 5 (.mv (cI 0))])
          (.ret)))))))))
theorem s44_ok : lookF Try.prog 44 = some (s44, 83, [.tmp 4, .tmp 5]) := by kernel_rfl
/-- slices.CompactFunc[[][2][]string,[2][]string]: 2 parameters, 0 captured -/
def s92 : SC := .seq (.reg [o1 4 (.mv (.c (.slice none 0 0)))])
  (.seq (.seq (.reg [o1 8 (.mv (.t 0)),
     o1 9 (.lenL (.t 8)),
     o1 10 (.bin .lss (.t 9) (cI 2))])
    (.cond (.t 10) (.seq (.reg [o1 11 (.mv (.t 0)),
       o1 4 (.mv (.t 11))])
      (.ret)) (.skip)))
   (.seq (.seq (.reg [o1 5 (.mv (cI 1))])
     (.block 0 (.loop (.seq (.seq (.reg [o1 12 (.mv (.t 5)),
          o1 13 (.mv (.t 0)),
          o1 14 (.lenL (.t 13)),
          o1 15 (.bin .lss (.t 12) (.t 14))])
         (.cond (.t 15) (.skip) (.exit 0)))
        (.seq (.block 1 (.seq (.regC [(false, o1 18 (.mv (.t 1))),
            (false, o1 19 (.mv (.t 0))),
            (false, o1 20 (.mv (.t 5))),
            (false, o1 21 (.iaddr 2 (.t 19) (.t 20))),
            (false, o1 22 (.load (some 2) (.t 21))),
            (false, o1 23 (.mv (.t 0))),
            (false, o1 24 (.mv (.t 5))),
            (false, o1 25 (.bin .sub (.t 24) (cI 1))),
            (false, o1 26 (.iaddr 2 (.t 23) (.t 25))),
            (false, o1 27 (.load (some 2) (.t 26))),
            (true, o1 28 (.call (.t 18) [(.t 22), (.t 27)]))])
           (.cond (.t 28) (.seq (.reg [o1 29 (.mv (.t 0)),
              o1 30 (.mv (.t 5)),
              o1 31 (.sl 2 (.t 29) (some (.t 30)) none),
              o1 6 (.mv (.t 31))])
             (.seq (.seq (.reg [o1 7 (.mv (cI 1))])
               (.block 2 (.loop (.seq (.seq (.reg [o1 32 (.mv (.t 7)),
                    o1 33 (.mv (.t 6)),
                    o1 34 (.lenL (.t 33)),
                    o1 35 (.bin .lss (.t 32) (.t 34))])
                   (.cond (.t 35) (.skip) (.exit 2)))
                  (.seq (.block 3 (.seq (.regC [(false, o1 38 (.mv (.t 1))),
                      (false, o1 39 (.mv (.t 6))),
                      (false, o1 40 (.mv (.t 7))),
                      (false, o1 41 (.iaddr 2 (.t 39) (.t 40))),
                      (false, o1 42 (.load (some 2) (.t 41))),
                      (false, o1 43 (.mv (.t 6))),
                      (false, o1 44 (.mv (.t 7))),
                      (false, o1 45 (.bin .sub (.t 44) (cI 1))),
                      (false, o1 46 (.iaddr 2 (.t 43) (.t 45))),
                      (false, o1 47 (.load (some 2) (.t 46))),
                      (true, o1 48 (.call (.t 38) [(.t 42), (.t 47)])),
                      (false, o1 49 (.un .not (.t 48)))])
                     (.cond (.t 49) (.seq (.reg [o1 50 (.mv (.t 0)),
                        o1 51 (.mv (.t 5)),
                        o1 52 (.mv (.t 6)),
                        o1 53 (.mv (.t 7)),
                        o1 54 (.iaddr 2 (.t 52) (.t 53)),
                        o1 55 (.load (some 2) (.t 54)),
                        o1 56 (.iaddr 2 (.t 50) (.t 51)),
                        o0 (.store 2 (.t 56) (.t 55))])
                       (.reg [o1 57 (.mv (.t 5)),
                        o1 58 (.bin .add (.t 57) (cI 1)),
                        o1 5 (.mv (.t 58))])) (.skip))))
                   (.reg [o1 36 (.mv (.t 7)),
                    o1 37 (.bin .add (.t 36) (cI 1)),
                    o1 7 (.mv (.t 37))]))))))
              (.seq (.reg [o1 59 (.mv (.t 0)),
                o1 60 (.mv (.t 5)),
                o1 61 (.sl 2 (.t 59) (some (.t 60)) none),
                o0 (.clr 2 [(.slice none 0 0), (.slice none 0 0)] (.t 61))])
               (.seq (.reg [o1 62 (.mv (.t 0)),
                 o1 63 (.mv (.t 5)),
                 o1 64 (.sl 2 (.t 62) none (some (.t 63))),
                 o1 4 (.mv (.t 64))])
                (.ret))))) (.skip))))
         (.reg [o1 16 (.mv (.t 5)),
          o1 17 (.bin .add (.t 16) (cI 1)),
          o1 5 (.mv (.t 17))]))))))
    (.seq (.reg [o1 65 (.mv (.t 0)),
      o1 4 (.mv (.t 65))])
     (.ret))))
theorem s92_ok : lookF Try.prog 92 = some (s92, 66, [.tmp 4]) := by kernel_rfl
set_option maxHeartbeats 2000000 in
set_option maxRecDepth 10000 in
theorem hUnsandhi_ok (l : List Joint) (w : List Str) : Fn P 44 [sl l, sl w] (.tup [sl (unT l w).1, intA (unT l w).2]) := by
  have c1 := hJoints_ok l
  have c2 := words_ok [w]
  have c3 := first_ok [jntErr l, wordsErr [w]]
  by_cases h1 : jntErr l ≠ 0
  · rw [unT, if_pos h1]
    have e : firstE [jntErr l, wordsErr [w]] = jntErr l := by rw [firstTwo, if_pos h1]
    rw [e] at c3
    (refine fn_look s44_ok (by simp) (by intro k; simp only [go_sem, Nat.reduceEqDiff, ↓reduceIte, reduceCtorEq, Nat.reduceAdd, Nat.reduceMul, Int.reduceToNat, List.reduceReplicate, Nat.reduceLeDiff, Nat.reduceLT, Int.reduceLT, Int.reduceLE, Int.reduceEq]) fun S hS => cwp_sound _ _ _ _ ?_; simp (maxSteps := 900000) (disch := omega) only [s44, go_sem, Nat.reduceEqDiff, ↓reduceIte, reduceCtorEq, Nat.reduceAdd, Nat.reduceMul, Int.reduceToNat, List.reduceReplicate, Nat.reduceLeDiff, Nat.reduceLT, Int.reduceLT, Int.reduceLE, Int.reduceEq])
    repeat' (first | with_reducible refine inw ?_ | simp (maxSteps := 900000) (disch := omega) only [go_sem, Nat.reduceEqDiff, ↓reduceIte, reduceCtorEq, Nat.reduceAdd, Nat.reduceMul, Int.reduceToNat, List.reduceReplicate, Nat.reduceLeDiff, Nat.reduceLT, Int.reduceLT, Int.reduceLE, Int.reduceEq] | (with_reducible apply call_D (c1)); (focus simp (maxSteps := 900000) (disch := omega) only [go_sem, Nat.reduceEqDiff, ↓reduceIte, reduceCtorEq, Nat.reduceAdd, Nat.reduceMul, Int.reduceToNat, List.reduceReplicate, Nat.reduceLeDiff, Nat.reduceLT, Int.reduceLT, Int.reduceLE, Int.reduceEq] <;> rfl) | (with_reducible apply callD_lend (c2)); (focus simp (maxSteps := 900000) (disch := omega) only [go_sem, Nat.reduceEqDiff, ↓reduceIte, reduceCtorEq, Nat.reduceAdd, Nat.reduceMul, Int.reduceToNat, List.reduceReplicate, Nat.reduceLeDiff, Nat.reduceLT, Int.reduceLT, Int.reduceLE, Int.reduceEq] <;> rfl); (focus rfl) | (with_reducible apply callD_lend (c3)); (focus simp (maxSteps := 900000) (disch := omega) only [go_sem, Nat.reduceEqDiff, ↓reduceIte, reduceCtorEq, Nat.reduceAdd, Nat.reduceMul, Int.reduceToNat, List.reduceReplicate, Nat.reduceLeDiff, Nat.reduceLT, Int.reduceLT, Int.reduceLE, Int.reduceEq] <;> rfl); (focus rfl) | (with_reducible apply call_D (c2)); (focus simp (maxSteps := 900000) (disch := omega) only [go_sem, Nat.reduceEqDiff, ↓reduceIte, reduceCtorEq, Nat.reduceAdd, Nat.reduceMul, Int.reduceToNat, List.reduceReplicate, Nat.reduceLeDiff, Nat.reduceLT, Int.reduceLT, Int.reduceLE, Int.reduceEq] <;> rfl) | (with_reducible apply call_D (c3)); (focus simp (maxSteps := 900000) (disch := omega) only [go_sem, Nat.reduceEqDiff, ↓reduceIte, reduceCtorEq, Nat.reduceAdd, Nat.reduceMul, Int.reduceToNat, List.reduceReplicate, Nat.reduceLeDiff, Nat.reduceLT, Int.reduceLT, Int.reduceLE, Int.reduceEq] <;> rfl) | with_reducible refine pickB_f ?_ | with_reducible refine giv_intro fun _h => ?_ | with_reducible refine alt_intro ?_ fun _h => ?_ | with_reducible refine pickD_nil ?_ | (with_reducible refine brc (fun _h => ?_) fun _h => ?_) <;> first | (exfalso; omega) | simp only [decide_eq_false _h] | simp only [(_h : (_ : Bool) = _)] | simp only [decide_eq_true _h] | skip)
    all_goals rfl
  by_cases h2 : wordsErr [w] ≠ 0
  · rw [unT, if_neg h1, if_pos h2]
    have e : firstE [jntErr l, wordsErr [w]] = wordsErr [w] := by rw [firstTwo, if_neg h1]
    rw [e] at c3
    (refine fn_look s44_ok (by simp) (by intro k; simp only [go_sem, Nat.reduceEqDiff, ↓reduceIte, reduceCtorEq, Nat.reduceAdd, Nat.reduceMul, Int.reduceToNat, List.reduceReplicate, Nat.reduceLeDiff, Nat.reduceLT, Int.reduceLT, Int.reduceLE, Int.reduceEq]) fun S hS => cwp_sound _ _ _ _ ?_; simp (maxSteps := 900000) (disch := omega) only [s44, go_sem, Nat.reduceEqDiff, ↓reduceIte, reduceCtorEq, Nat.reduceAdd, Nat.reduceMul, Int.reduceToNat, List.reduceReplicate, Nat.reduceLeDiff, Nat.reduceLT, Int.reduceLT, Int.reduceLE, Int.reduceEq])
    repeat' (first | with_reducible refine inw ?_ | simp (maxSteps := 900000) (disch := omega) only [go_sem, Nat.reduceEqDiff, ↓reduceIte, reduceCtorEq, Nat.reduceAdd, Nat.reduceMul, Int.reduceToNat, List.reduceReplicate, Nat.reduceLeDiff, Nat.reduceLT, Int.reduceLT, Int.reduceLE, Int.reduceEq] | (with_reducible apply call_D (c1)); (focus simp (maxSteps := 900000) (disch := omega) only [go_sem, Nat.reduceEqDiff, ↓reduceIte, reduceCtorEq, Nat.reduceAdd, Nat.reduceMul, Int.reduceToNat, List.reduceReplicate, Nat.reduceLeDiff, Nat.reduceLT, Int.reduceLT, Int.reduceLE, Int.reduceEq] <;> rfl) | (with_reducible apply callD_lend (c2)); (focus simp (maxSteps := 900000) (disch := omega) only [go_sem, Nat.reduceEqDiff, ↓reduceIte, reduceCtorEq, Nat.reduceAdd, Nat.reduceMul, Int.reduceToNat, List.reduceReplicate, Nat.reduceLeDiff, Nat.reduceLT, Int.reduceLT, Int.reduceLE, Int.reduceEq] <;> rfl); (focus rfl) | (with_reducible apply callD_lend (c3)); (focus simp (maxSteps := 900000) (disch := omega) only [go_sem, Nat.reduceEqDiff, ↓reduceIte, reduceCtorEq, Nat.reduceAdd, Nat.reduceMul, Int.reduceToNat, List.reduceReplicate, Nat.reduceLeDiff, Nat.reduceLT, Int.reduceLT, Int.reduceLE, Int.reduceEq] <;> rfl); (focus rfl) | (with_reducible apply call_D (c2)); (focus simp (maxSteps := 900000) (disch := omega) only [go_sem, Nat.reduceEqDiff, ↓reduceIte, reduceCtorEq, Nat.reduceAdd, Nat.reduceMul, Int.reduceToNat, List.reduceReplicate, Nat.reduceLeDiff, Nat.reduceLT, Int.reduceLT, Int.reduceLE, Int.reduceEq] <;> rfl) | (with_reducible apply call_D (c3)); (focus simp (maxSteps := 900000) (disch := omega) only [go_sem, Nat.reduceEqDiff, ↓reduceIte, reduceCtorEq, Nat.reduceAdd, Nat.reduceMul, Int.reduceToNat, List.reduceReplicate, Nat.reduceLeDiff, Nat.reduceLT, Int.reduceLT, Int.reduceLE, Int.reduceEq] <;> rfl) | with_reducible refine pickB_f ?_ | with_reducible refine giv_intro fun _h => ?_ | with_reducible refine alt_intro ?_ fun _h => ?_ | with_reducible refine pickD_nil ?_ | (with_reducible refine brc (fun _h => ?_) fun _h => ?_) <;> first | (exfalso; omega) | simp only [decide_eq_false _h] | simp only [(_h : (_ : Bool) = _)] | simp only [decide_eq_true _h] | skip)
    all_goals rfl
  have e : firstE [jntErr l, wordsErr [w]] = 0 := by rw [firstTwo, if_neg h1]; omega
  rw [e] at c3
  by_cases h3 : 14 < w.length
  · rw [unT, if_neg h1, if_neg h2, if_pos h3]
    (refine fn_look s44_ok (by simp) (by intro k; simp only [go_sem, Nat.reduceEqDiff, ↓reduceIte, reduceCtorEq, Nat.reduceAdd, Nat.reduceMul, Int.reduceToNat, List.reduceReplicate, Nat.reduceLeDiff, Nat.reduceLT, Int.reduceLT, Int.reduceLE, Int.reduceEq]) fun S hS => cwp_sound _ _ _ _ ?_; simp (maxSteps := 900000) (disch := omega) only [s44, go_sem, Nat.reduceEqDiff, ↓reduceIte, reduceCtorEq, Nat.reduceAdd, Nat.reduceMul, Int.reduceToNat, List.reduceReplicate, Nat.reduceLeDiff, Nat.reduceLT, Int.reduceLT, Int.reduceLE, Int.reduceEq])
    repeat' (first | with_reducible refine inw ?_ | simp (maxSteps := 900000) (disch := omega) only [go_sem, Nat.reduceEqDiff, ↓reduceIte, reduceCtorEq, Nat.reduceAdd, Nat.reduceMul, Int.reduceToNat, List.reduceReplicate, Nat.reduceLeDiff, Nat.reduceLT, Int.reduceLT, Int.reduceLE, Int.reduceEq] | (with_reducible apply call_D (c1)); (focus simp (maxSteps := 900000) (disch := omega) only [go_sem, Nat.reduceEqDiff, ↓reduceIte, reduceCtorEq, Nat.reduceAdd, Nat.reduceMul, Int.reduceToNat, List.reduceReplicate, Nat.reduceLeDiff, Nat.reduceLT, Int.reduceLT, Int.reduceLE, Int.reduceEq] <;> rfl) | (with_reducible apply callD_lend (c2)); (focus simp (maxSteps := 900000) (disch := omega) only [go_sem, Nat.reduceEqDiff, ↓reduceIte, reduceCtorEq, Nat.reduceAdd, Nat.reduceMul, Int.reduceToNat, List.reduceReplicate, Nat.reduceLeDiff, Nat.reduceLT, Int.reduceLT, Int.reduceLE, Int.reduceEq] <;> rfl); (focus rfl) | (with_reducible apply callD_lend (c3)); (focus simp (maxSteps := 900000) (disch := omega) only [go_sem, Nat.reduceEqDiff, ↓reduceIte, reduceCtorEq, Nat.reduceAdd, Nat.reduceMul, Int.reduceToNat, List.reduceReplicate, Nat.reduceLeDiff, Nat.reduceLT, Int.reduceLT, Int.reduceLE, Int.reduceEq] <;> rfl); (focus rfl) | (with_reducible apply call_D (c2)); (focus simp (maxSteps := 900000) (disch := omega) only [go_sem, Nat.reduceEqDiff, ↓reduceIte, reduceCtorEq, Nat.reduceAdd, Nat.reduceMul, Int.reduceToNat, List.reduceReplicate, Nat.reduceLeDiff, Nat.reduceLT, Int.reduceLT, Int.reduceLE, Int.reduceEq] <;> rfl) | (with_reducible apply call_D (c3)); (focus simp (maxSteps := 900000) (disch := omega) only [go_sem, Nat.reduceEqDiff, ↓reduceIte, reduceCtorEq, Nat.reduceAdd, Nat.reduceMul, Int.reduceToNat, List.reduceReplicate, Nat.reduceLeDiff, Nat.reduceLT, Int.reduceLT, Int.reduceLE, Int.reduceEq] <;> rfl) | with_reducible refine pickB_f ?_ | with_reducible refine giv_intro fun _h => ?_ | with_reducible refine alt_intro ?_ fun _h => ?_ | with_reducible refine pickD_nil ?_ | (with_reducible refine brc (fun _h => ?_) fun _h => ?_) <;> first | (exfalso; omega) | simp only [decide_eq_false _h] | simp only [(_h : (_ : Bool) = _)] | simp only [decide_eq_true _h] | skip)
    all_goals rfl
  rw [unT, if_neg h1, if_neg h2, if_neg h3]
  (refine fn_look s44_ok (by simp) (by intro k; simp only [go_sem, Nat.reduceEqDiff, ↓reduceIte, reduceCtorEq, Nat.reduceAdd, Nat.reduceMul, Int.reduceToNat, List.reduceReplicate, Nat.reduceLeDiff, Nat.reduceLT, Int.reduceLT, Int.reduceLE, Int.reduceEq]) fun S hS => cwp_sound _ _ _ _ ?_; simp (maxSteps := 900000) (disch := omega) only [s44, go_sem, Nat.reduceEqDiff, ↓reduceIte, reduceCtorEq, Nat.reduceAdd, Nat.reduceMul, Int.reduceToNat, List.reduceReplicate, Nat.reduceLeDiff, Nat.reduceLT, Int.reduceLT, Int.reduceLE, Int.reduceEq])
  repeat' (first | simp (maxSteps := 900000) (disch := omega) only [go_sem, Nat.reduceEqDiff, ↓reduceIte, reduceCtorEq, Nat.reduceAdd, Nat.reduceMul, Int.reduceToNat, List.reduceReplicate, Nat.reduceLeDiff, Nat.reduceLT, Int.reduceLT, Int.reduceLE, Int.reduceEq] | (with_reducible apply call_D (c1)); (focus simp (maxSteps := 900000) (disch := omega) only [go_sem, Nat.reduceEqDiff, ↓reduceIte, reduceCtorEq, Nat.reduceAdd, Nat.reduceMul, Int.reduceToNat, List.reduceReplicate, Nat.reduceLeDiff, Nat.reduceLT, Int.reduceLT, Int.reduceLE, Int.reduceEq] <;> rfl) | (with_reducible apply callD_lend (c2)); (focus simp (maxSteps := 900000) (disch := omega) only [go_sem, Nat.reduceEqDiff, ↓reduceIte, reduceCtorEq, Nat.reduceAdd, Nat.reduceMul, Int.reduceToNat, List.reduceReplicate, Nat.reduceLeDiff, Nat.reduceLT, Int.reduceLT, Int.reduceLE, Int.reduceEq] <;> rfl); (focus rfl) | (with_reducible apply callD_lend (c3)); (focus simp (maxSteps := 900000) (disch := omega) only [go_sem, Nat.reduceEqDiff, ↓reduceIte, reduceCtorEq, Nat.reduceAdd, Nat.reduceMul, Int.reduceToNat, List.reduceReplicate, Nat.reduceLeDiff, Nat.reduceLT, Int.reduceLT, Int.reduceLE, Int.reduceEq] <;> rfl); (focus rfl) | (with_reducible apply call_D (c2)); (focus simp (maxSteps := 900000) (disch := omega) only [go_sem, Nat.reduceEqDiff, ↓reduceIte, reduceCtorEq, Nat.reduceAdd, Nat.reduceMul, Int.reduceToNat, List.reduceReplicate, Nat.reduceLeDiff, Nat.reduceLT, Int.reduceLT, Int.reduceLE, Int.reduceEq] <;> rfl) | (with_reducible apply call_D (c3)); (focus simp (maxSteps := 900000) (disch := omega) only [go_sem, Nat.reduceEqDiff, ↓reduceIte, reduceCtorEq, Nat.reduceAdd, Nat.reduceMul, Int.reduceToNat, List.reduceReplicate, Nat.reduceLeDiff, Nat.reduceLT, Int.reduceLT, Int.reduceLE, Int.reduceEq] <;> rfl) | with_reducible refine pickB_f ?_ | with_reducible refine giv_intro fun _h => ?_ | with_reducible refine alt_intro ?_ fun _h => ?_ | with_reducible refine pickD_nil ?_ | (with_reducible refine brc (fun _h => ?_) fun _h => ?_) <;> first | (exfalso; omega) | simp only [decide_eq_false _h] | simp only [(_h : (_ : Bool) = _)] | simp only [decide_eq_true _h] | skip)
  have hw60 : w.length ≤ 14 := by omega
  have hjn : ∀ j ∈ l, j.1.length ≤ 60 ∧ j.2.1.length ≤ 60 ∧ j.2.2.length ≤ 60 := by
    have hj0 : jntErr l = 0 := by omega
    unfold jntErr at hj0
    split at hj0
    · cases hj0
    split at hj0
    · rename_i q; exact absurd hj0 q
    rename_i q
    exact fun j hj => jnt_len (by omega) hj
  have hll : l.length ≤ 24 := by
    have hj0 : jntErr l = 0 := by omega
    unfold jntErr at hj0
    split at hj0
    · cases hj0
    · omega
  clear c1 c2 c3 e
  refine nilCell 2 0 59 1 47 2 (by rfl) (by rfl) ?_
  simp only [List.set_cons_zero, List.set_cons_succ, List.length_cons, List.length_nil, Nat.zero_add, Nat.reduceAdd, List.cons_append, List.nil_append]
  (refine loopC hS [2, 3, 7, 8, 29] (by simp only [go_sem, Nat.reduceEqDiff, ↓reduceIte, reduceCtorEq, Nat.reduceAdd, Nat.reduceMul, Int.reduceToNat, List.reduceReplicate, Nat.reduceLeDiff, Nat.reduceLT, Int.reduceLT, Int.reduceLE, Int.reduceEq]; try rfl) (fun (p : Nat) => [(30, intA p)]) (fun (p : Nat) => [some (.row 43 1 [sl l]), some (.row 22 1 [sl w]), some (.row 59 1 [own S 3 (outH l w p)]), rowO 47 (outH l w p)]) (fun (p : Nat) => p ≤ w.length + 1) (fun (p : Nat) => w.length + 1 - p) (0) ?_ (by intro s; first | (simp only [List.length_cons, List.length_nil]; done) | rfl | (rcases s with ⟨_, _⟩; rfl) | (rcases s with ⟨_, _, _⟩; rfl) | (rcases s with ⟨_, _, _, _⟩; rfl) | (rcases s with ⟨_, _, _, _, _⟩; rfl)) ?_)
  · simp (maxSteps := 900000) (disch := omega) only [go_sem, Nat.reduceEqDiff, ↓reduceIte, reduceCtorEq, Nat.reduceAdd, Nat.reduceMul, Int.reduceToNat, List.reduceReplicate, Nat.reduceLeDiff, Nat.reduceLT, Int.reduceLT, Int.reduceLE, Int.reduceEq]
    exact ⟨rfl, rfl⟩
  rintro p hp
  replace hp : p ≤ w.length + 1 := hp
  have hol := outH_len l w p
  have hol2 : p * (l.length + 1) ≤ 15 * 25 := Nat.mul_le_mul (by omega) (by omega)
  by_cases hpl : p ≤ w.length
  · have hst := atPr_snoc l w p [] zJ
    rw [List.nil_append, fits_zJ hpl, Bool.true_and, cut_zJ, show atPr l w p [] = [] from rfl, List.nil_append] at hst
    have z2 : zcells [Value.slice none 0 0, Value.slice none 0 0] 2 = [.sc (.slice none 0 0), .sc (.slice none 0 0)] := rfl
    have k1 := cloneS_ok (w.take p) (by rw [List.length_take]; omega)
    have k2 := cloneS_ok (w.drop p) (by rw [List.length_drop]; omega)
    have e1 : (w.take p).length = p := by rw [List.length_take]; omega
    have e2 : (w.drop p).length = w.length - p := List.length_drop
    have e6 : List.take (w.length - p) (List.drop p w) = List.drop p w := List.take_of_length_le (by rw [List.length_drop]; exact Nat.le_refl _)
    have d1 := joined_ok l (w.take p) (w.drop p) (fun j hj => by have := hjn j hj; omega) (by omega) (by omega)
    have d2 := Equal_ok (joinL l (w.take p) (w.drop p)) w
    cases hok : okPr l w (w.take p, w.drop p)
    case' true =>
      rw [if_pos hok] at hst
      simp only [okPr, Bool.and_eq_true, decide_eq_true_eq] at hok
      obtain ⟨⟨⟨⟨o1, o2⟩, o3⟩, o4⟩, o5⟩ := hok
      rw [o5] at d1
      rw [decide_eq_true o5, o5] at d2
      repeat' (first | with_reducible refine inw ?_ | simp (maxSteps := 900000) (disch := omega) only [go_sem, Nat.reduceEqDiff, ↓reduceIte, reduceCtorEq, Nat.reduceAdd, Nat.reduceMul, Int.reduceToNat, List.reduceReplicate, Nat.reduceLeDiff, Nat.reduceLT, Int.reduceLT, Int.reduceLE, Int.reduceEq, e6, Nat.sub_zero, z2] | with_reducible refine pickB_t ?_ | (with_reducible apply call_D (k1)); (focus simp (maxSteps := 900000) (disch := omega) only [go_sem, Nat.reduceEqDiff, ↓reduceIte, reduceCtorEq, Nat.reduceAdd, Nat.reduceMul, Int.reduceToNat, List.reduceReplicate, Nat.reduceLeDiff, Nat.reduceLT, Int.reduceLT, Int.reduceLE, Int.reduceEq, e6, Nat.sub_zero, z2] <;> rfl) | (with_reducible apply call_D (k2)); (focus simp (maxSteps := 900000) (disch := omega) only [go_sem, Nat.reduceEqDiff, ↓reduceIte, reduceCtorEq, Nat.reduceAdd, Nat.reduceMul, Int.reduceToNat, List.reduceReplicate, Nat.reduceLeDiff, Nat.reduceLT, Int.reduceLT, Int.reduceLE, Int.reduceEq, e6, Nat.sub_zero, z2] <;> rfl) | (with_reducible refine callI s88_ok (by simp) hS (cwp_sound _ _ _ _ ?_)); simp (maxSteps := 900000) (disch := omega) only [s88, go_sem, Nat.reduceEqDiff, ↓reduceIte, reduceCtorEq, Nat.reduceAdd, Nat.reduceMul, Int.reduceToNat, List.reduceReplicate, Nat.reduceLeDiff, Nat.reduceLT, Int.reduceLT, Int.reduceLE, Int.reduceEq, e6, Nat.sub_zero, z2] | (with_reducible apply call_D (d1)); (focus simp (maxSteps := 900000) (disch := omega) only [go_sem, Nat.reduceEqDiff, ↓reduceIte, reduceCtorEq, Nat.reduceAdd, Nat.reduceMul, Int.reduceToNat, List.reduceReplicate, Nat.reduceLeDiff, Nat.reduceLT, Int.reduceLT, Int.reduceLE, Int.reduceEq, e6, Nat.sub_zero, z2] <;> rfl) | (with_reducible apply call (d2)); (focus simp (maxSteps := 900000) (disch := omega) only [go_sem, Nat.reduceEqDiff, ↓reduceIte, reduceCtorEq, Nat.reduceAdd, Nat.reduceMul, Int.reduceToNat, List.reduceReplicate, Nat.reduceLeDiff, Nat.reduceLT, Int.reduceLT, Int.reduceLE, Int.reduceEq, e6, Nat.sub_zero, z2] <;> rfl) | with_reducible refine pickB_f ?_ | with_reducible refine giv_intro fun _h => ?_ | with_reducible refine alt_intro ?_ fun _h => ?_ | with_reducible refine pickD_nil ?_ | (with_reducible refine brc (fun _h => ?_) fun _h => ?_) <;> first | (exfalso; omega) | simp only [decide_eq_false _h] | simp only [(_h : (_ : Bool) = _)] | simp only [decide_eq_true _h] | skip)
    case' false =>
      rw [if_neg (by rw [hok]; decide)] at hst
      by_cases o5 : joinL l (w.take p) (w.drop p) = w
      case' pos =>
        simp only [okPr, o5, decide_true, Bool.and_true] at hok
        rw [o5] at d1
        rw [decide_eq_true o5, o5] at d2
        repeat' (first | with_reducible refine inw ?_ | simp (maxSteps := 900000) (disch := omega) only [go_sem, Nat.reduceEqDiff, ↓reduceIte, reduceCtorEq, Nat.reduceAdd, Nat.reduceMul, Int.reduceToNat, List.reduceReplicate, Nat.reduceLeDiff, Nat.reduceLT, Int.reduceLT, Int.reduceLE, Int.reduceEq, e6, Nat.sub_zero, z2] | with_reducible refine pickB_t ?_ | (with_reducible apply call_D (k1)); (focus simp (maxSteps := 900000) (disch := omega) only [go_sem, Nat.reduceEqDiff, ↓reduceIte, reduceCtorEq, Nat.reduceAdd, Nat.reduceMul, Int.reduceToNat, List.reduceReplicate, Nat.reduceLeDiff, Nat.reduceLT, Int.reduceLT, Int.reduceLE, Int.reduceEq, e6, Nat.sub_zero, z2] <;> rfl) | (with_reducible apply call_D (k2)); (focus simp (maxSteps := 900000) (disch := omega) only [go_sem, Nat.reduceEqDiff, ↓reduceIte, reduceCtorEq, Nat.reduceAdd, Nat.reduceMul, Int.reduceToNat, List.reduceReplicate, Nat.reduceLeDiff, Nat.reduceLT, Int.reduceLT, Int.reduceLE, Int.reduceEq, e6, Nat.sub_zero, z2] <;> rfl) | (with_reducible refine callI s88_ok (by simp) hS (cwp_sound _ _ _ _ ?_)); simp (maxSteps := 900000) (disch := omega) only [s88, go_sem, Nat.reduceEqDiff, ↓reduceIte, reduceCtorEq, Nat.reduceAdd, Nat.reduceMul, Int.reduceToNat, List.reduceReplicate, Nat.reduceLeDiff, Nat.reduceLT, Int.reduceLT, Int.reduceLE, Int.reduceEq, e6, Nat.sub_zero, z2] | (with_reducible apply call_D (d1)); (focus simp (maxSteps := 900000) (disch := omega) only [go_sem, Nat.reduceEqDiff, ↓reduceIte, reduceCtorEq, Nat.reduceAdd, Nat.reduceMul, Int.reduceToNat, List.reduceReplicate, Nat.reduceLeDiff, Nat.reduceLT, Int.reduceLT, Int.reduceLE, Int.reduceEq, e6, Nat.sub_zero, z2] <;> rfl) | (with_reducible apply call (d2)); (focus simp (maxSteps := 900000) (disch := omega) only [go_sem, Nat.reduceEqDiff, ↓reduceIte, reduceCtorEq, Nat.reduceAdd, Nat.reduceMul, Int.reduceToNat, List.reduceReplicate, Nat.reduceLeDiff, Nat.reduceLT, Int.reduceLT, Int.reduceLE, Int.reduceEq, e6, Nat.sub_zero, z2] <;> rfl) | with_reducible refine pickB_f ?_ | with_reducible refine giv_intro fun _h => ?_ | with_reducible refine alt_intro ?_ fun _h => ?_ | with_reducible refine pickD_nil ?_ | (with_reducible refine brc (fun _h => ?_) fun _h => ?_) <;> first | (exfalso; omega) | simp only [decide_eq_false _h] | simp only [(_h : (_ : Bool) = _)] | simp only [decide_eq_true _h] | skip)
      case' neg =>
        rw [decide_eq_false o5] at d2
        repeat' (first | with_reducible refine inw ?_ | simp (maxSteps := 900000) (disch := omega) only [go_sem, Nat.reduceEqDiff, ↓reduceIte, reduceCtorEq, Nat.reduceAdd, Nat.reduceMul, Int.reduceToNat, List.reduceReplicate, Nat.reduceLeDiff, Nat.reduceLT, Int.reduceLT, Int.reduceLE, Int.reduceEq, e6, Nat.sub_zero, z2] | with_reducible refine pickB_t ?_ | (with_reducible apply call_D (k1)); (focus simp (maxSteps := 900000) (disch := omega) only [go_sem, Nat.reduceEqDiff, ↓reduceIte, reduceCtorEq, Nat.reduceAdd, Nat.reduceMul, Int.reduceToNat, List.reduceReplicate, Nat.reduceLeDiff, Nat.reduceLT, Int.reduceLT, Int.reduceLE, Int.reduceEq, e6, Nat.sub_zero, z2] <;> rfl) | (with_reducible apply call_D (k2)); (focus simp (maxSteps := 900000) (disch := omega) only [go_sem, Nat.reduceEqDiff, ↓reduceIte, reduceCtorEq, Nat.reduceAdd, Nat.reduceMul, Int.reduceToNat, List.reduceReplicate, Nat.reduceLeDiff, Nat.reduceLT, Int.reduceLT, Int.reduceLE, Int.reduceEq, e6, Nat.sub_zero, z2] <;> rfl) | (with_reducible refine callI s88_ok (by simp) hS (cwp_sound _ _ _ _ ?_)); simp (maxSteps := 900000) (disch := omega) only [s88, go_sem, Nat.reduceEqDiff, ↓reduceIte, reduceCtorEq, Nat.reduceAdd, Nat.reduceMul, Int.reduceToNat, List.reduceReplicate, Nat.reduceLeDiff, Nat.reduceLT, Int.reduceLT, Int.reduceLE, Int.reduceEq, e6, Nat.sub_zero, z2] | (with_reducible apply call_D (d1)); (focus simp (maxSteps := 900000) (disch := omega) only [go_sem, Nat.reduceEqDiff, ↓reduceIte, reduceCtorEq, Nat.reduceAdd, Nat.reduceMul, Int.reduceToNat, List.reduceReplicate, Nat.reduceLeDiff, Nat.reduceLT, Int.reduceLT, Int.reduceLE, Int.reduceEq, e6, Nat.sub_zero, z2] <;> rfl) | (with_reducible apply call (d2)); (focus simp (maxSteps := 900000) (disch := omega) only [go_sem, Nat.reduceEqDiff, ↓reduceIte, reduceCtorEq, Nat.reduceAdd, Nat.reduceMul, Int.reduceToNat, List.reduceReplicate, Nat.reduceLeDiff, Nat.reduceLT, Int.reduceLT, Int.reduceLE, Int.reduceEq, e6, Nat.sub_zero, z2] <;> rfl) | with_reducible refine pickB_f ?_ | with_reducible refine giv_intro fun _h => ?_ | with_reducible refine alt_intro ?_ fun _h => ?_ | with_reducible refine pickD_nil ?_ | (with_reducible refine brc (fun _h => ?_) fun _h => ?_) <;> first | (exfalso; omega) | simp only [decide_eq_false _h] | simp only [(_h : (_ : Bool) = _)] | simp only [decide_eq_true _h] | skip)
      all_goals first
        | (exfalso; simp only [Bool.and_eq_false_iff, decide_eq_false_iff_not] at hok; omega)
        | (refine virtRow 47 2 ?_; simp only [List.cons_append, List.nil_append])
    all_goals first
      | (exfalso; simp only [Bool.and_eq_false_iff, decide_eq_false_iff_not] at hok; omega)
      | skip
    all_goals
      (refine loopC hS [2, 3, 7, 8, 9, 29, 30, 43, 44] (by simp only [go_sem, Nat.reduceEqDiff, ↓reduceIte, reduceCtorEq, Nat.reduceAdd, Nat.reduceMul, Int.reduceToNat, List.reduceReplicate, Nat.reduceLeDiff, Nat.reduceLT, Int.reduceLT, Int.reduceLE, Int.reduceEq]; try rfl) (fun (k : Nat) => [(45, intA k)]) (fun (k : Nat) => [some (.row 43 1 [sl l]), some (.row 22 1 [sl w]), some (.row 59 1 [own S 3 (outK l w p k)]), rowO 47 (outK l w p k), none]) (fun (k : Nat) => k ≤ l.length) (fun (k : Nat) => l.length - k) (0) ?_ (by intro s; first | (simp only [List.length_cons, List.length_nil]; done) | rfl | (rcases s with ⟨_, _⟩; rfl) | (rcases s with ⟨_, _, _⟩; rfl) | (rcases s with ⟨_, _, _, _⟩; rfl) | (rcases s with ⟨_, _, _, _, _⟩; rfl)) ?_)
      · simp (maxSteps := 900000) (disch := omega) only [go_sem, Nat.reduceEqDiff, ↓reduceIte, reduceCtorEq, Nat.reduceAdd, Nat.reduceMul, Int.reduceToNat, List.reduceReplicate, Nat.reduceLeDiff, Nat.reduceLT, Int.reduceLT, Int.reduceLE, Int.reduceEq]
        rw [show outK l w p 0 = outH l w p ++ atPr l w p [zJ] from rfl]
        first
          | (rw [hst, List.append_nil]; exact ⟨Nat.zero_le _, rfl, rfl⟩)
          | (rw [hst]
             have hl1 : (outH l w p ++ [(w.take p, w.drop p)]).length = (outH l w p).length + 1 := by rw [List.length_append, List.length_singleton]
             refine ⟨Nat.zero_le _, ?_, ?_⟩
             · rw [own, hl1]
             · first | rfl | (rw [← cellsL_app]; rfl))
      clear hst d1 d2 k1 k2
      rintro k hk
      replace hk : k ≤ l.length := hk
      by_cases hkl : k < l.length
      · have hj := hjn _ (nth_mem hkl)
        have hs2 : atPr l w p (zJ :: l.take (k + 1)) = atPr l w p (zJ :: l.take k) ++ if (fitsPr (nth l k) w p && okPr l w (cutPr (nth l k) w p)) = true then [cutPr (nth l k) w p] else [] := by
          rw [List.take_add_one, nth_get? hkl, ← atPr_snoc]; rfl
        have hal := atPr_len l w p (zJ :: l.take k)
        rw [List.length_cons, List.length_take] at hal
        rw [fits_beg hpl] at hs2
        have eC : ((cellsL l).drop (k * 3)).take 3 = [sl (nth l k).1, sl (nth l k).2.1, sl (nth l k).2.2] := by rw [cellsL_drop, nth_drop hkl]; rfl
        have z3 : zcells [Value.slice none 0 0, Value.slice none 0 0, Value.slice none 0 0] 3 = [.sc (.slice none 0 0), .sc (.slice none 0 0), .sc (.slice none 0 0)] := rfl
        have b1 := hBegins_ok (w.drop p) (nth l k).2.2
        generalize hO : outK l w p k = O at *
        generalize hO2 : outK l w p (k + 1) = O2 at *
        have hOO : O2 = O ++ if (begB (w.drop p) (nth l k).2.2 && okPr l w (cutPr (nth l k) w p)) = true then [cutPr (nth l k) w p] else [] := by rw [← hO2, outK, hs2, ← List.append_assoc, ← hO, outK]
        have hOl : O.length ≤ 1000 := by rw [← hO, outK, List.length_append]; omega
        cases hb : begB (w.drop p) (nth l k).2.2 with
        | false =>
          rw [hb] at b1
          rw [hb, Bool.false_and, if_neg (by decide), List.append_nil] at hOO
          repeat' (first | with_reducible refine inw ?_ | simp (maxSteps := 900000) (disch := omega) only [go_sem, Nat.reduceEqDiff, ↓reduceIte, reduceCtorEq, Nat.reduceAdd, Nat.reduceMul, Int.reduceToNat, List.reduceReplicate, Nat.reduceLeDiff, Nat.reduceLT, Int.reduceLT, Int.reduceLE, Int.reduceEq, e6, eC, z3] | with_reducible refine pickB_t ?_ | (with_reducible apply call_D (b1)); (focus simp (maxSteps := 900000) (disch := omega) only [go_sem, Nat.reduceEqDiff, ↓reduceIte, reduceCtorEq, Nat.reduceAdd, Nat.reduceMul, Int.reduceToNat, List.reduceReplicate, Nat.reduceLeDiff, Nat.reduceLT, Int.reduceLT, Int.reduceLE, Int.reduceEq, e6, eC, z3] <;> rfl) | (with_reducible apply call (b1)); (focus simp (maxSteps := 900000) (disch := omega) only [go_sem, Nat.reduceEqDiff, ↓reduceIte, reduceCtorEq, Nat.reduceAdd, Nat.reduceMul, Int.reduceToNat, List.reduceReplicate, Nat.reduceLeDiff, Nat.reduceLT, Int.reduceLT, Int.reduceLE, Int.reduceEq, e6, eC, z3] <;> rfl) | with_reducible refine pickB_f ?_ | with_reducible refine giv_intro fun _h => ?_ | with_reducible refine alt_intro ?_ fun _h => ?_ | with_reducible refine pickD_nil ?_ | (with_reducible refine brc (fun _h => ?_) fun _h => ?_) <;> first | (exfalso; omega) | simp only [decide_eq_false _h] | simp only [(_h : (_ : Bool) = _)] | simp only [decide_eq_true _h] | skip)
          refine ⟨k + 1, ⟨by omega, by omega⟩, by omega, ?_⟩
          rw [hO2, hOO]
          exact ⟨rfl, rfl⟩
        | true =>
          rw [hb] at b1
          rw [hb, Bool.true_and] at hOO
          have hbl : p + (nth l k).2.2.length ≤ w.length := by
            simp only [begB, Bool.and_eq_true, decide_eq_true_eq, List.length_drop] at hb; omega
          have m1 := concatS_ok [w.take p, (nth l k).1] (by simp) (by simp; omega)
          have m2 := concatS_ok [(nth l k).2.1, w.drop (p + (nth l k).2.2.length)] (by simp) (by simp; omega)
          have f1 : [w.take p, (nth l k).1].flatten = (cutPr (nth l k) w p).1 := by simp [cutPr]
          have f2 : [(nth l k).2.1, w.drop (p + (nth l k).2.2.length)].flatten = (cutPr (nth l k) w p).2 := by simp [cutPr]
          rw [f1] at m1
          rw [f2] at m2
          have g1 : (cutPr (nth l k) w p).1.length ≤ 1000 := by rw [← f1]; simp; omega
          have g2 : (cutPr (nth l k) w p).2.length ≤ 1000 := by rw [← f2]; simp; omega
          have e7 : ((p : Int) + (nth l k).2.2.length).toNat = p + (nth l k).2.2.length := by omega
          have e8 : List.take (w.length - (p + (nth l k).2.2.length)) (List.drop (p + (nth l k).2.2.length) w) = List.drop (p + (nth l k).2.2.length) w := List.take_of_length_le (by rw [List.length_drop]; exact Nat.le_refl _)
          generalize cutPr (nth l k) w p = c at *
          have d1 := joined_ok l c.1 c.2 (fun j hj => by have := hjn j hj; omega) (by omega) (by omega)
          have d2 := Equal_ok (joinL l c.1 c.2) w
          cases hok : okPr l w c
          case' true =>
            rw [if_pos hok] at hOO
            simp only [okPr, Bool.and_eq_true, decide_eq_true_eq] at hok
            obtain ⟨⟨⟨⟨o1, o2⟩, o3⟩, o4⟩, o5⟩ := hok
            rw [o5] at d1
            rw [decide_eq_true o5, o5] at d2
            repeat' (first | with_reducible refine inw ?_ | simp (maxSteps := 900000) (disch := omega) only [go_sem, Nat.reduceEqDiff, ↓reduceIte, reduceCtorEq, Nat.reduceAdd, Nat.reduceMul, Int.reduceToNat, List.reduceReplicate, Nat.reduceLeDiff, Nat.reduceLT, Int.reduceLT, Int.reduceLE, Int.reduceEq, e6, e7, e8, eC, z3, z2, Nat.sub_zero] | with_reducible refine pickB_t ?_ | (with_reducible apply call (b1)); (focus simp (maxSteps := 900000) (disch := omega) only [go_sem, Nat.reduceEqDiff, ↓reduceIte, reduceCtorEq, Nat.reduceAdd, Nat.reduceMul, Int.reduceToNat, List.reduceReplicate, Nat.reduceLeDiff, Nat.reduceLT, Int.reduceLT, Int.reduceLE, Int.reduceEq, e6, e7, e8, eC, z3, z2, Nat.sub_zero] <;> rfl) | (with_reducible apply call_D (m1)); (focus simp (maxSteps := 900000) (disch := omega) only [go_sem, Nat.reduceEqDiff, ↓reduceIte, reduceCtorEq, Nat.reduceAdd, Nat.reduceMul, Int.reduceToNat, List.reduceReplicate, Nat.reduceLeDiff, Nat.reduceLT, Int.reduceLT, Int.reduceLE, Int.reduceEq, e6, e7, e8, eC, z3, z2, Nat.sub_zero] <;> rfl) | (with_reducible apply call_D (m2)); (focus simp (maxSteps := 900000) (disch := omega) only [go_sem, Nat.reduceEqDiff, ↓reduceIte, reduceCtorEq, Nat.reduceAdd, Nat.reduceMul, Int.reduceToNat, List.reduceReplicate, Nat.reduceLeDiff, Nat.reduceLT, Int.reduceLT, Int.reduceLE, Int.reduceEq, e6, e7, e8, eC, z3, z2, Nat.sub_zero] <;> rfl) | (with_reducible refine callI s88_ok (by simp) hS (cwp_sound _ _ _ _ ?_)); simp (maxSteps := 900000) (disch := omega) only [s88, go_sem, Nat.reduceEqDiff, ↓reduceIte, reduceCtorEq, Nat.reduceAdd, Nat.reduceMul, Int.reduceToNat, List.reduceReplicate, Nat.reduceLeDiff, Nat.reduceLT, Int.reduceLT, Int.reduceLE, Int.reduceEq, e6, e7, e8, eC, z3, z2, Nat.sub_zero] | (with_reducible apply call_D (d1)); (focus simp (maxSteps := 900000) (disch := omega) only [go_sem, Nat.reduceEqDiff, ↓reduceIte, reduceCtorEq, Nat.reduceAdd, Nat.reduceMul, Int.reduceToNat, List.reduceReplicate, Nat.reduceLeDiff, Nat.reduceLT, Int.reduceLT, Int.reduceLE, Int.reduceEq, e6, e7, e8, eC, z3, z2, Nat.sub_zero] <;> rfl) | (with_reducible apply call (d2)); (focus simp (maxSteps := 900000) (disch := omega) only [go_sem, Nat.reduceEqDiff, ↓reduceIte, reduceCtorEq, Nat.reduceAdd, Nat.reduceMul, Int.reduceToNat, List.reduceReplicate, Nat.reduceLeDiff, Nat.reduceLT, Int.reduceLT, Int.reduceLE, Int.reduceEq, e6, e7, e8, eC, z3, z2, Nat.sub_zero] <;> rfl) | with_reducible refine pickB_f ?_ | with_reducible refine giv_intro fun _h => ?_ | with_reducible refine alt_intro ?_ fun _h => ?_ | with_reducible refine pickD_nil ?_ | (with_reducible refine brc (fun _h => ?_) fun _h => ?_) <;> first | (exfalso; omega) | simp only [decide_eq_false _h] | simp only [(_h : (_ : Bool) = _)] | simp only [decide_eq_true _h] | skip)
          case' false =>
            rw [if_neg (by rw [hok]; decide)] at hOO
            by_cases o5 : joinL l c.1 c.2 = w
            case' pos =>
              simp only [okPr, o5, decide_true, Bool.and_true] at hok
              rw [o5] at d1
              rw [decide_eq_true o5, o5] at d2
              repeat' (first | with_reducible refine inw ?_ | simp (maxSteps := 900000) (disch := omega) only [go_sem, Nat.reduceEqDiff, ↓reduceIte, reduceCtorEq, Nat.reduceAdd, Nat.reduceMul, Int.reduceToNat, List.reduceReplicate, Nat.reduceLeDiff, Nat.reduceLT, Int.reduceLT, Int.reduceLE, Int.reduceEq, e6, e7, e8, eC, z3, z2, Nat.sub_zero] | with_reducible refine pickB_t ?_ | (with_reducible apply call (b1)); (focus simp (maxSteps := 900000) (disch := omega) only [go_sem, Nat.reduceEqDiff, ↓reduceIte, reduceCtorEq, Nat.reduceAdd, Nat.reduceMul, Int.reduceToNat, List.reduceReplicate, Nat.reduceLeDiff, Nat.reduceLT, Int.reduceLT, Int.reduceLE, Int.reduceEq, e6, e7, e8, eC, z3, z2, Nat.sub_zero] <;> rfl) | (with_reducible apply call_D (m1)); (focus simp (maxSteps := 900000) (disch := omega) only [go_sem, Nat.reduceEqDiff, ↓reduceIte, reduceCtorEq, Nat.reduceAdd, Nat.reduceMul, Int.reduceToNat, List.reduceReplicate, Nat.reduceLeDiff, Nat.reduceLT, Int.reduceLT, Int.reduceLE, Int.reduceEq, e6, e7, e8, eC, z3, z2, Nat.sub_zero] <;> rfl) | (with_reducible apply call_D (m2)); (focus simp (maxSteps := 900000) (disch := omega) only [go_sem, Nat.reduceEqDiff, ↓reduceIte, reduceCtorEq, Nat.reduceAdd, Nat.reduceMul, Int.reduceToNat, List.reduceReplicate, Nat.reduceLeDiff, Nat.reduceLT, Int.reduceLT, Int.reduceLE, Int.reduceEq, e6, e7, e8, eC, z3, z2, Nat.sub_zero] <;> rfl) | (with_reducible refine callI s88_ok (by simp) hS (cwp_sound _ _ _ _ ?_)); simp (maxSteps := 900000) (disch := omega) only [s88, go_sem, Nat.reduceEqDiff, ↓reduceIte, reduceCtorEq, Nat.reduceAdd, Nat.reduceMul, Int.reduceToNat, List.reduceReplicate, Nat.reduceLeDiff, Nat.reduceLT, Int.reduceLT, Int.reduceLE, Int.reduceEq, e6, e7, e8, eC, z3, z2, Nat.sub_zero] | (with_reducible apply call_D (d1)); (focus simp (maxSteps := 900000) (disch := omega) only [go_sem, Nat.reduceEqDiff, ↓reduceIte, reduceCtorEq, Nat.reduceAdd, Nat.reduceMul, Int.reduceToNat, List.reduceReplicate, Nat.reduceLeDiff, Nat.reduceLT, Int.reduceLT, Int.reduceLE, Int.reduceEq, e6, e7, e8, eC, z3, z2, Nat.sub_zero] <;> rfl) | (with_reducible apply call (d2)); (focus simp (maxSteps := 900000) (disch := omega) only [go_sem, Nat.reduceEqDiff, ↓reduceIte, reduceCtorEq, Nat.reduceAdd, Nat.reduceMul, Int.reduceToNat, List.reduceReplicate, Nat.reduceLeDiff, Nat.reduceLT, Int.reduceLT, Int.reduceLE, Int.reduceEq, e6, e7, e8, eC, z3, z2, Nat.sub_zero] <;> rfl) | with_reducible refine pickB_f ?_ | with_reducible refine giv_intro fun _h => ?_ | with_reducible refine alt_intro ?_ fun _h => ?_ | with_reducible refine pickD_nil ?_ | (with_reducible refine brc (fun _h => ?_) fun _h => ?_) <;> first | (exfalso; omega) | simp only [decide_eq_false _h] | simp only [(_h : (_ : Bool) = _)] | simp only [decide_eq_true _h] | skip)
            case' neg =>
              rw [decide_eq_false o5] at d2
              repeat' (first | with_reducible refine inw ?_ | simp (maxSteps := 900000) (disch := omega) only [go_sem, Nat.reduceEqDiff, ↓reduceIte, reduceCtorEq, Nat.reduceAdd, Nat.reduceMul, Int.reduceToNat, List.reduceReplicate, Nat.reduceLeDiff, Nat.reduceLT, Int.reduceLT, Int.reduceLE, Int.reduceEq, e6, e7, e8, eC, z3, z2, Nat.sub_zero] | with_reducible refine pickB_t ?_ | (with_reducible apply call (b1)); (focus simp (maxSteps := 900000) (disch := omega) only [go_sem, Nat.reduceEqDiff, ↓reduceIte, reduceCtorEq, Nat.reduceAdd, Nat.reduceMul, Int.reduceToNat, List.reduceReplicate, Nat.reduceLeDiff, Nat.reduceLT, Int.reduceLT, Int.reduceLE, Int.reduceEq, e6, e7, e8, eC, z3, z2, Nat.sub_zero] <;> rfl) | (with_reducible apply call_D (m1)); (focus simp (maxSteps := 900000) (disch := omega) only [go_sem, Nat.reduceEqDiff, ↓reduceIte, reduceCtorEq, Nat.reduceAdd, Nat.reduceMul, Int.reduceToNat, List.reduceReplicate, Nat.reduceLeDiff, Nat.reduceLT, Int.reduceLT, Int.reduceLE, Int.reduceEq, e6, e7, e8, eC, z3, z2, Nat.sub_zero] <;> rfl) | (with_reducible apply call_D (m2)); (focus simp (maxSteps := 900000) (disch := omega) only [go_sem, Nat.reduceEqDiff, ↓reduceIte, reduceCtorEq, Nat.reduceAdd, Nat.reduceMul, Int.reduceToNat, List.reduceReplicate, Nat.reduceLeDiff, Nat.reduceLT, Int.reduceLT, Int.reduceLE, Int.reduceEq, e6, e7, e8, eC, z3, z2, Nat.sub_zero] <;> rfl) | (with_reducible refine callI s88_ok (by simp) hS (cwp_sound _ _ _ _ ?_)); simp (maxSteps := 900000) (disch := omega) only [s88, go_sem, Nat.reduceEqDiff, ↓reduceIte, reduceCtorEq, Nat.reduceAdd, Nat.reduceMul, Int.reduceToNat, List.reduceReplicate, Nat.reduceLeDiff, Nat.reduceLT, Int.reduceLT, Int.reduceLE, Int.reduceEq, e6, e7, e8, eC, z3, z2, Nat.sub_zero] | (with_reducible apply call_D (d1)); (focus simp (maxSteps := 900000) (disch := omega) only [go_sem, Nat.reduceEqDiff, ↓reduceIte, reduceCtorEq, Nat.reduceAdd, Nat.reduceMul, Int.reduceToNat, List.reduceReplicate, Nat.reduceLeDiff, Nat.reduceLT, Int.reduceLT, Int.reduceLE, Int.reduceEq, e6, e7, e8, eC, z3, z2, Nat.sub_zero] <;> rfl) | (with_reducible apply call (d2)); (focus simp (maxSteps := 900000) (disch := omega) only [go_sem, Nat.reduceEqDiff, ↓reduceIte, reduceCtorEq, Nat.reduceAdd, Nat.reduceMul, Int.reduceToNat, List.reduceReplicate, Nat.reduceLeDiff, Nat.reduceLT, Int.reduceLT, Int.reduceLE, Int.reduceEq, e6, e7, e8, eC, z3, z2, Nat.sub_zero] <;> rfl) | with_reducible refine pickB_f ?_ | with_reducible refine giv_intro fun _h => ?_ | with_reducible refine alt_intro ?_ fun _h => ?_ | with_reducible refine pickD_nil ?_ | (with_reducible refine brc (fun _h => ?_) fun _h => ?_) <;> first | (exfalso; omega) | simp only [decide_eq_false _h] | simp only [(_h : (_ : Bool) = _)] | simp only [decide_eq_true _h] | skip)
          all_goals first
            | (exfalso; simp only [Bool.and_eq_false_iff, decide_eq_false_iff_not] at hok; omega)
            | skip
          all_goals
            refine ⟨k + 1, ⟨by omega, by omega⟩, by omega, ?_⟩
            rw [hO2]
            first
              | (rw [List.append_nil] at hOO; rw [hOO]; exact ⟨rfl, rfl⟩)
              | (have hl2 : O2.length = O.length + 1 := by rw [hOO, List.length_append, List.length_singleton]
                 refine ⟨by rw [own, hl2], ?_⟩
                 rw [hOO, ← cellsL_app]; rfl)
      · obtain rfl : k = l.length := by omega
        have hK : outK l w p l.length = outH l w (p + 1) := by rw [outK, List.take_length, outH_succ]
        rw [hK]
        repeat' (first | with_reducible refine inw ?_ | simp (maxSteps := 900000) (disch := omega) only [go_sem, Nat.reduceEqDiff, ↓reduceIte, reduceCtorEq, Nat.reduceAdd, Nat.reduceMul, Int.reduceToNat, List.reduceReplicate, Nat.reduceLeDiff, Nat.reduceLT, Int.reduceLT, Int.reduceLE, Int.reduceEq] | with_reducible refine pickB_f ?_ | with_reducible refine giv_intro fun _h => ?_ | with_reducible refine alt_intro ?_ fun _h => ?_ | with_reducible refine pickD_nil ?_ | (with_reducible refine brc (fun _h => ?_) fun _h => ?_) <;> first | (exfalso; omega) | simp only [decide_eq_false _h] | simp only [(_h : (_ : Bool) = _)] | simp only [decide_eq_true _h] | skip)
        exact ⟨p + 1, ⟨by omega, by omega⟩, by omega, rfl, rfl⟩
  · have hpe : p = w.length + 1 := by omega
    subst hpe
    have hcd : outH l w (w.length + 1) = candH l w := rfl
    rw [hcd] at hol
    rw [hcd]
    have hcl : ∀ c ∈ candH l w, c.1.length ≤ 1000 ∧ c.2.length ≤ 1000 := fun c hc => by
      simp only [candH, atPr, List.mem_flatMap, List.mem_map, List.mem_filter, Bool.and_eq_true] at hc
      obtain ⟨q, _, j, ⟨_, _, h⟩, rfl⟩ := hc
      simp only [okPr, Bool.and_eq_true, decide_eq_true_eq] at h
      omega
    generalize hC : candH l w = C at *
    have q1 : ∀ (cs : List AV), cellsOf (.clo 89 cs) = some [.clo 89 cs] := fun _ => rfl
    have q2 : ∀ (cs : List AV), AV.one (.clo 89 cs) = true := fun _ => rfl
    repeat' (first | with_reducible refine inw ?_ | simp (maxSteps := 900000) (disch := omega) only [go_sem, Nat.reduceEqDiff, ↓reduceIte, reduceCtorEq, Nat.reduceAdd, Nat.reduceMul, Int.reduceToNat, List.reduceReplicate, Nat.reduceLeDiff, Nat.reduceLT, Int.reduceLT, Int.reduceLE, Int.reduceEq, q1, q2] | with_reducible refine pickB_f ?_ | with_reducible refine giv_intro fun _h => ?_ | with_reducible refine alt_intro ?_ fun _h => ?_ | with_reducible refine pickD_nil ?_ | (with_reducible refine brc (fun _h => ?_) fun _h => ?_) <;> first | (exfalso; omega) | simp only [decide_eq_false _h] | simp only [(_h : (_ : Bool) = _)] | simp only [decide_eq_true _h] | skip)
    refine sortK_call (ρ := sortP_ren) (e := 47) (by decide) sortP (fun w => by kernel_rfl) (fun w => by kernel_rfl) ⟨_, Try.func91, by kernel_rfl, by kernel_rfl⟩ cmpPr (swo_of cmp_cmpPr) (by simp) C (by simp (maxSteps := 900000) (disch := omega) only [go_sem, Nat.reduceEqDiff, ↓reduceIte, reduceCtorEq, Nat.reduceAdd, Nat.reduceMul, Int.reduceToNat, List.reduceReplicate, Nat.reduceLeDiff, Nat.reduceLT, Int.reduceLT, Int.reduceLE, Int.reduceEq]) rfl (fun x hx y hy => uns2_ok x y (hcl x hx) (hcl y hy)) (fun s hp hs => ?_)
    have hdd := ded_is l w (hC ▸ hp) hs
    have hsl : s.length = C.length := hp.length_eq
    have hsc : ∀ c ∈ s, c.1.length ≤ 1000 ∧ c.2.length ≤ 1000 := fun c hc => hcl c (hp.mem_iff.1 hc)
    simp only [List.set_cons_zero, List.set_cons_succ, own, ← hsl]
    have hC2 : s.length ≤ 375 := by rw [hsl]; omega
    rw [← hdd]
    clear hdd hcl hp hs hC hsl
    repeat' (first | with_reducible refine inw ?_ | simp (maxSteps := 900000) (disch := omega) only [go_sem, Nat.reduceEqDiff, ↓reduceIte, reduceCtorEq, Nat.reduceAdd, Nat.reduceMul, Int.reduceToNat, List.reduceReplicate, Nat.reduceLeDiff, Nat.reduceLT, Int.reduceLT, Int.reduceLE, Int.reduceEq, q1, q2] | (with_reducible refine callI s92_ok (by simp) hS (cwp_sound _ _ _ _ ?_)); simp (maxSteps := 900000) (disch := omega) only [s92, go_sem, Nat.reduceEqDiff, ↓reduceIte, reduceCtorEq, Nat.reduceAdd, Nat.reduceMul, Int.reduceToNat, List.reduceReplicate, Nat.reduceLeDiff, Nat.reduceLT, Int.reduceLT, Int.reduceLE, Int.reduceEq, q1, q2] | with_reducible refine pickB_f ?_ | with_reducible refine giv_intro fun _h => ?_ | with_reducible refine alt_intro ?_ fun _h => ?_ | with_reducible refine pickD_nil ?_ | (with_reducible refine brc (fun _h => ?_) fun _h => ?_) <;> first | (exfalso; omega) | simp only [decide_eq_false _h] | simp only [(_h : (_ : Bool) = _)] | simp only [decide_eq_true _h] | skip)
    skip
    · rw [dedC_short (by omega)]
    (refine loopC hS [0, 1] (by simp only [go_sem, Nat.reduceEqDiff, ↓reduceIte, reduceCtorEq, Nat.reduceAdd, Nat.reduceMul, Int.reduceToNat, List.reduceReplicate, Nat.reduceLeDiff, Nat.reduceLT, Int.reduceLT, Int.reduceLE, Int.reduceEq]; try rfl) (fun (i : Nat) => [(5, intA i)]) (fun (i : Nat) => [some (.row 43 1 [sl l]), some (.row 22 1 [sl w]), some (.row 59 1 [.ref (S.nm 3) (s.length * 2) 0 s.length]), rowO 47 s, some (.row 104 1 [.clo 89 []])]) (fun (i : Nat) => 1 ≤ i ∧ i ≤ s.length ∧ dedC cmpPr (s.take i) = s.take i) (fun (i : Nat) => s.length - i) (1) ?_ (by intro s; first | (simp only [List.length_cons, List.length_nil]; done) | rfl | (rcases s with ⟨_, _⟩; rfl) | (rcases s with ⟨_, _, _⟩; rfl) | (rcases s with ⟨_, _, _, _⟩; rfl) | (rcases s with ⟨_, _, _, _, _⟩; rfl)) ?_)
    · simp (maxSteps := 900000) (disch := omega) only [go_sem, Nat.reduceEqDiff, ↓reduceIte, reduceCtorEq, Nat.reduceAdd, Nat.reduceMul, Int.reduceToNat, List.reduceReplicate, Nat.reduceLeDiff, Nat.reduceLT, Int.reduceLT, Int.reduceLE, Int.reduceEq]
      refine ⟨by omega, dedC_short (by rw [List.length_take]; omega)⟩
    rintro i ⟨hi1, hi2, hi3⟩
    replace hi1 : 1 ≤ i := hi1
    replace hi2 : i ≤ s.length := hi2
    have e1 : (((i : Nat) : Int) - 1).toNat = i - 1 := by omega
    have eC : ∀ j, j < s.length → ((cellsL s).drop (j * 2)).take 2 = [sl (nth s j).1, sl (nth s j).2] := fun j hj => by rw [cellsL_drop, nth_drop hj]; rfl
    by_cases hil : i < s.length
    · have hb := uns3_ok (nth s i) (nth s (i - 1)) (hsc _ (nth_mem hil)) (hsc _ (nth_mem (by omega)))
      have hst := dedC_succ (c := cmpPr) hi1 hil
      have eC1 := eC i hil
      have eC2 := eC (i - 1) (by omega)
      by_cases hq : cmpPr (nth s i) (nth s (i - 1)) = 0
      · rw [decide_eq_true hq] at hb
        repeat' (first | with_reducible refine inw ?_ | simp (maxSteps := 900000) (disch := omega) only [go_sem, Nat.reduceEqDiff, ↓reduceIte, reduceCtorEq, Nat.reduceAdd, Nat.reduceMul, Int.reduceToNat, List.reduceReplicate, Nat.reduceLeDiff, Nat.reduceLT, Int.reduceLT, Int.reduceLE, Int.reduceEq, e1, eC1, eC2, q1, q2, if_true, or_self, and_true, true_or, or_true, Nat.zero_add, Nat.sub_zero, ax_room] | (with_reducible apply callD_lend (hb)); (focus simp (maxSteps := 900000) (disch := omega) only [go_sem, Nat.reduceEqDiff, ↓reduceIte, reduceCtorEq, Nat.reduceAdd, Nat.reduceMul, Int.reduceToNat, List.reduceReplicate, Nat.reduceLeDiff, Nat.reduceLT, Int.reduceLT, Int.reduceLE, Int.reduceEq, e1, eC1, eC2, q1, q2, if_true, or_self, and_true, true_or, or_true, Nat.zero_add, Nat.sub_zero, ax_room] <;> rfl); (focus rfl) | with_reducible refine pickB_f ?_ | with_reducible refine giv_intro fun _h => ?_ | with_reducible refine alt_intro ?_ fun _h => ?_ | with_reducible refine pickD_nil ?_ | (with_reducible refine brc (fun _h => ?_) fun _h => ?_) <;> first | (exfalso; omega) | simp only [decide_eq_false _h] | simp only [(_h : (_ : Bool) = _)] | simp only [decide_eq_true _h] | skip)
        (refine loopC hS [0, 1, 6] (by simp only [go_sem, Nat.reduceEqDiff, ↓reduceIte, reduceCtorEq, Nat.reduceAdd, Nat.reduceMul, Int.reduceToNat, List.reduceReplicate, Nat.reduceLeDiff, Nat.reduceLT, Int.reduceLT, Int.reduceLE, Int.reduceEq]; try rfl) (fun (k : Nat) => [(5, intA (cmpX cmpPr s i k).2), (7, intA ((k : Int) + 1))]) (fun (k : Nat) => [some (.row 43 1 [sl l]), some (.row 22 1 [sl w]), some (.row 59 1 [.ref (S.nm 3) (s.length * 2) 0 s.length]), rowO 47 (cmpX cmpPr s i k).1, some (.row 104 1 [.clo 89 []])]) (fun (k : Nat) => i + k < s.length) (fun (k : Nat) => s.length - i - k) (0) ?_ (by intro s; first | (simp only [List.length_cons, List.length_nil]; done) | rfl | (rcases s with ⟨_, _⟩; rfl) | (rcases s with ⟨_, _, _⟩; rfl) | (rcases s with ⟨_, _, _, _⟩; rfl) | (rcases s with ⟨_, _, _, _, _⟩; rfl)) ?_)
        · simp (maxSteps := 900000) (disch := omega) only [go_sem, Nat.reduceEqDiff, ↓reduceIte, reduceCtorEq, Nat.reduceAdd, Nat.reduceMul, Int.reduceToNat, List.reduceReplicate, Nat.reduceLeDiff, Nat.reduceLT, Int.reduceLT, Int.reduceLE, Int.reduceEq]
          exact ⟨by omega, ⟨rfl, rfl⟩, rfl⟩
        rintro k hk
        replace hk : i + k < s.length := hk
        have eN := fun j => cmpX_nth (c := cmpPr) (j := j) hi1 hi3 hq k hk
        obtain ⟨a1, a2, a3, a4, a5⟩ := cmpX_ok (c := cmpPr) hi1 hi3 hq k hk
        by_cases hks : i + k + 1 < s.length
        · have hb2 := uns3_ok (nth s (i + k + 1)) (nth s (i + k)) (hsc _ (nth_mem hks)) (hsc _ (nth_mem hk))
          have hX : cmpX cmpPr s i (k + 1) = if cmpPr (nth s (i + k + 1)) (nth s (i + k)) = 0 then cmpX cmpPr s i k else ((cmpX cmpPr s i k).1.set (cmpX cmpPr s i k).2 (nth s (i + k + 1)), (cmpX cmpPr s i k).2 + 1) := rfl
          generalize hXX : cmpX cmpPr s i k = X at *
          obtain ⟨X, n⟩ := X
          dsimp only at *
          have eD1 : ((cellsL X).drop ((i + k + 1) * 2)).take 2 = [sl (nth s (i + k + 1)).1, sl (nth s (i + k + 1)).2] := by rw [cellsL_drop, nth_drop (by omega), eN _ (by omega)]; rfl
          have eD2 : ((cellsL X).drop ((i + k) * 2)).take 2 = [sl (nth s (i + k)).1, sl (nth s (i + k)).2] := by rw [cellsL_drop, nth_drop (by omega), eN _ (by omega)]; rfl
          have e2 : ((k : Int) + 1).toNat = k + 1 := by omega
          have e3 : ((k : Int) + 1 - 1).toNat = k := by omega
          have e4 : i * 2 + (k + 1) * 2 = (i + k + 1) * 2 := by omega
          have e5 : i * 2 + k * 2 = (i + k) * 2 := by omega
          by_cases hq2 : cmpPr (nth s (i + k + 1)) (nth s (i + k)) = 0
          · rw [decide_eq_true hq2] at hb2
            rw [if_pos hq2] at hX
            repeat' (first | with_reducible refine inw ?_ | simp (maxSteps := 900000) (disch := omega) only [go_sem, Nat.reduceEqDiff, ↓reduceIte, reduceCtorEq, Nat.reduceAdd, Nat.reduceMul, Int.reduceToNat, List.reduceReplicate, Nat.reduceLeDiff, Nat.reduceLT, Int.reduceLT, Int.reduceLE, Int.reduceEq, e2, e3, e4, e5, a1, eD1, eD2, q1, q2, if_true, or_self, and_true, true_or, or_true, Nat.zero_add, Nat.sub_zero, ax_room] | (with_reducible apply callD_lend (hb2)); (focus simp (maxSteps := 900000) (disch := omega) only [go_sem, Nat.reduceEqDiff, ↓reduceIte, reduceCtorEq, Nat.reduceAdd, Nat.reduceMul, Int.reduceToNat, List.reduceReplicate, Nat.reduceLeDiff, Nat.reduceLT, Int.reduceLT, Int.reduceLE, Int.reduceEq, e2, e3, e4, e5, a1, eD1, eD2, q1, q2, if_true, or_self, and_true, true_or, or_true, Nat.zero_add, Nat.sub_zero, ax_room] <;> rfl); (focus rfl) | with_reducible refine pickB_f ?_ | with_reducible refine giv_intro fun _h => ?_ | with_reducible refine alt_intro ?_ fun _h => ?_ | with_reducible refine pickD_nil ?_ | (with_reducible refine brc (fun _h => ?_) fun _h => ?_) <;> first | (exfalso; omega) | simp only [decide_eq_false _h] | simp only [(_h : (_ : Bool) = _)] | simp only [decide_eq_true _h] | skip)
            refine ⟨k + 1, ⟨by omega, by omega⟩, ?_⟩
            rw [hX]
            exact ⟨⟨rfl, by omega⟩, rfl⟩
          · rw [decide_eq_false hq2] at hb2
            rw [if_neg hq2] at hX
            repeat' (first | with_reducible refine inw ?_ | simp (maxSteps := 900000) (disch := omega) only [go_sem, Nat.reduceEqDiff, ↓reduceIte, reduceCtorEq, Nat.reduceAdd, Nat.reduceMul, Int.reduceToNat, List.reduceReplicate, Nat.reduceLeDiff, Nat.reduceLT, Int.reduceLT, Int.reduceLE, Int.reduceEq, e2, e3, e4, e5, a1, eD1, eD2, q1, q2, if_true, or_self, and_true, true_or, or_true, Nat.zero_add, Nat.sub_zero, ax_room] | (with_reducible apply callD_lend (hb2)); (focus simp (maxSteps := 900000) (disch := omega) only [go_sem, Nat.reduceEqDiff, ↓reduceIte, reduceCtorEq, Nat.reduceAdd, Nat.reduceMul, Int.reduceToNat, List.reduceReplicate, Nat.reduceLeDiff, Nat.reduceLT, Int.reduceLT, Int.reduceLE, Int.reduceEq, e2, e3, e4, e5, a1, eD1, eD2, q1, q2, if_true, or_self, and_true, true_or, or_true, Nat.zero_add, Nat.sub_zero, ax_room] <;> rfl); (focus rfl) | with_reducible refine pickB_f ?_ | with_reducible refine giv_intro fun _h => ?_ | with_reducible refine alt_intro ?_ fun _h => ?_ | with_reducible refine pickD_nil ?_ | (with_reducible refine brc (fun _h => ?_) fun _h => ?_) <;> first | (exfalso; omega) | simp only [decide_eq_false _h] | simp only [(_h : (_ : Bool) = _)] | simp only [decide_eq_true _h] | skip)
            refine ⟨k + 1, ⟨by omega, by omega⟩, ?_⟩
            rw [hX]
            refine ⟨⟨by show (n : Int) + 1 = ((n + 1 : Nat) : Int); omega, by omega⟩, ?_⟩
            show _ = cellsL (X.set n _)
            rw [← putAt_set (by omega)]
            exact cells_putAt X n (nth s (i + k + 1))
        · have hke : i + k + 1 = s.length := by omega
          rw [hke, List.take_length] at a4
          generalize hXX : cmpX cmpPr s i k = X at *
          obtain ⟨X, n⟩ := X
          dsimp only at *
          obtain ⟨Z, hZ⟩ : ∃ Z, (cellsL X).take (n * 2) ++ zcells [Value.slice none 0 0, Value.slice none 0 0] ((s.length - n) * 2) ++ (cellsL X).drop (n * 2 + (s.length - n) * 2) = Z := ⟨_, rfl⟩
          have hz1 : (zcells [Value.slice none 0 0, Value.slice none 0 0] ((s.length - n) * 2)).all AV.one = true := by rw [zc_two]; exact List.all_eq_true.2 fun x hx => by rw [List.eq_of_mem_replicate hx]; rfl
          have hz2 : (n * 2 + (s.length - n) * 2 ≤ s.length * 2) = True := eq_true (by omega)
          have hTl : ((cellsL X).take (n * 2)).length = n * 2 := by rw [List.length_take, cellsL_len]; omega
          have hZl : Z.length = s.length * 2 := by rw [← hZ, List.length_append, List.length_append, hTl, zc_two, List.length_replicate, List.length_drop, cellsL_len]; omega
          have hZt : Z.take (n * 2) = cellsL (dedC cmpPr s) := by rw [← hZ, List.append_assoc, List.take_left' hTl, cellsL_take, a4]
          have hn : n = (dedC cmpPr s).length := by rw [← a4, List.length_take]; omega
          have eQ : ∀ (e : Nat) (D : Nat → Bool) (S : St) (d : Nat), seenRow (some (e, 2, Z)) 0 n (s.length * 2) (seen D S d) = sl (dedC cmpPr s) := fun e D S d => seenRow_q hn (by omega) hZt
          have hR : ∀ R, rowAt (some (.row 47 2 Z) :: R) 0 (s.length * 2) = some (47, 2, Z) := fun R => by rw [rowAt_zero, if_pos hZl]
          repeat' (first | with_reducible refine inw ?_ | simp (maxSteps := 900000) (disch := omega) only [go_sem, Nat.reduceEqDiff, ↓reduceIte, reduceCtorEq, Nat.reduceAdd, Nat.reduceMul, Int.reduceToNat, List.reduceReplicate, Nat.reduceLeDiff, Nat.reduceLT, Int.reduceLT, Int.reduceLE, Int.reduceEq, a1, hR, hz1, hz2, hZ, hZl, eQ, q1, q2, if_true, or_self, and_true, true_or, or_true, Nat.zero_add, Nat.sub_zero, ax_room] | with_reducible refine pickB_f ?_ | with_reducible refine giv_intro fun _h => ?_ | with_reducible refine alt_intro ?_ fun _h => ?_ | with_reducible refine pickD_nil ?_ | (with_reducible refine brc (fun _h => ?_) fun _h => ?_) <;> first | (exfalso; omega) | simp only [decide_eq_false _h] | simp only [(_h : (_ : Bool) = _)] | simp only [decide_eq_true _h] | skip)
          rw [← hZ, cellsL_take, bels_app, bels_app, bels_cellsL, bels_dropC, zc_two]
          exact ⟨⟨trivial, bels_iff.2 fun x hx => by rw [List.eq_of_mem_replicate hx]; trivial⟩, trivial⟩
      · rw [decide_eq_false hq] at hb
        rw [if_neg hq, hi3, show s.take i ++ [nth s i] = s.take (i + 1) by rw [List.take_add_one, nth_get? hil]; rfl] at hst
        repeat' (first | with_reducible refine inw ?_ | simp (maxSteps := 900000) (disch := omega) only [go_sem, Nat.reduceEqDiff, ↓reduceIte, reduceCtorEq, Nat.reduceAdd, Nat.reduceMul, Int.reduceToNat, List.reduceReplicate, Nat.reduceLeDiff, Nat.reduceLT, Int.reduceLT, Int.reduceLE, Int.reduceEq, e1, eC1, eC2, q1, q2] | (with_reducible apply callD_lend (hb)); (focus simp (maxSteps := 900000) (disch := omega) only [go_sem, Nat.reduceEqDiff, ↓reduceIte, reduceCtorEq, Nat.reduceAdd, Nat.reduceMul, Int.reduceToNat, List.reduceReplicate, Nat.reduceLeDiff, Nat.reduceLT, Int.reduceLT, Int.reduceLE, Int.reduceEq, e1, eC1, eC2, q1, q2] <;> rfl); (focus rfl) | with_reducible refine pickB_f ?_ | with_reducible refine giv_intro fun _h => ?_ | with_reducible refine alt_intro ?_ fun _h => ?_ | with_reducible refine pickD_nil ?_ | (with_reducible refine brc (fun _h => ?_) fun _h => ?_) <;> first | (exfalso; omega) | simp only [decide_eq_false _h] | simp only [(_h : (_ : Bool) = _)] | simp only [decide_eq_true _h] | skip)
        exact ⟨i + 1, ⟨by omega, by omega, by omega, hst⟩, by omega⟩
    · obtain rfl : i = s.length := by omega
      rw [List.take_length] at hi3
      rw [hi3]
      repeat' (first | with_reducible refine inw ?_ | simp (maxSteps := 900000) (disch := omega) only [go_sem, Nat.reduceEqDiff, ↓reduceIte, reduceCtorEq, Nat.reduceAdd, Nat.reduceMul, Int.reduceToNat, List.reduceReplicate, Nat.reduceLeDiff, Nat.reduceLT, Int.reduceLT, Int.reduceLE, Int.reduceEq] | with_reducible refine pickB_f ?_ | with_reducible refine giv_intro fun _h => ?_ | with_reducible refine alt_intro ?_ fun _h => ?_ | with_reducible refine pickD_nil ?_ | (with_reducible refine brc (fun _h => ?_) fun _h => ?_) <;> first | (exfalso; omega) | simp only [decide_eq_false _h] | simp only [(_h : (_ : Bool) = _)] | simp only [decide_eq_true _h] | skip)
      all_goals first | rfl | skip
end Go.Proofs.Ytpfoflhhbkjngaa.Ev

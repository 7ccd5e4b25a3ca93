/- The reference's pairs of words that are joined to a word: the program. -/
import Derived.Test.YtpfoflhhbkjngaaZFnIk
import Derived.Test.YtpfoflhhbkjngaaZFnIe
set_option linter.unusedVariables false
set_option linter.unusedSimpArgs false
namespace Go.Proofs.Ytpfoflhhbkjngaa.Ev
open Go Go.Proofs

theorem onePr_succ (l : List Joint) (w : List Str) (j : Joint) (n : Nat) : onePr l w j (n + 1) = onePr l w j n ++ if (fitsPr j w n && okPr l w (cutPr j w n)) = true then [cutPr j w n] else [] := by
  unfold onePr
  rw [List.range_succ, List.filter_append, List.map_append]
  congr 1
  by_cases h : (fitsPr j w n && okPr l w (cutPr j w n)) = true
  · rw [if_pos h]; simp only [List.filter_cons, h, if_true, List.filter_nil, List.map_cons, List.map_nil]
  · rw [if_neg h]; simp only [List.filter_cons, h, Bool.false_eq_true, if_false, List.filter_nil, List.map_nil]
theorem onePr_len (l : List Joint) (w : List Str) (j : Joint) (n : Nat) : (onePr l w j n).length ≤ n := by
  unfold onePr; rw [List.length_map]
  exact Nat.le_trans (List.length_filter_le _ _) (by rw [List.length_range]; exact Nat.le_refl _)
theorem onePr_stop (l : List Joint) (w : List Str) (j : Joint) (n : Nat) (h : w.length < n + j.2.2.length) : ∀ d, onePr l w j (n + d) = onePr l w j n
  | 0 => rfl
  | d + 1 => by
    rw [show n + (d + 1) = n + d + 1 from rfl, onePr_succ, onePr_stop l w j n h d, if_neg, List.append_nil]
    intro e; simp only [fitsPr, Bool.and_eq_true, decide_eq_true_eq] at e; omega
def cR (l : List Joint) (w : List Str) (i : Nat) : List Pr := ((l ++ [zJ]).take i).flatMap fun j => onePr l w j (w.length + 1)
theorem cR_succ {l : List Joint} {w : List Str} {i : Nat} (h : i < (l ++ [zJ]).length) : cR l w (i + 1) = cR l w i ++ onePr l w (nth (l ++ [zJ]) i) (w.length + 1) := by
  unfold cR; rw [List.take_add_one, nth_get? h, Option.toList_some, List.flatMap_append]; simp
theorem cR_len (l : List Joint) (w : List Str) : ∀ i, (cR l w i).length ≤ i * (w.length + 1)
  | 0 => by simp [cR]
  | i + 1 => by
    have h1 := cR_len l w i
    by_cases h : i < (l ++ [zJ]).length
    · have := onePr_len l w (nth (l ++ [zJ]) i) (w.length + 1)
      rw [cR_succ h, List.length_append, Nat.add_mul]; omega
    · have : cR l w (i + 1) = cR l w i := by unfold cR; rw [List.take_of_length_le (by omega), List.take_of_length_le (by omega)]
      rw [this, Nat.add_mul]; omega
/-- The pairs so far, at joint i and place n. -/
def outR (l : List Joint) (w : List Str) (i n : Nat) : List Pr := insAll cmpPr (cR l w i ++ onePr l w (nth (l ++ [zJ]) i) n)
def outI (l : List Joint) (w : List Str) (i : Nat) : List Pr := insAll cmpPr (cR l w i)
theorem outR_len (l : List Joint) (w : List Str) (i n : Nat) : (outR l w i n).length ≤ i * (w.length + 1) + n := by
  have h1 := insAll_len (c := cmpPr) (cR l w i ++ onePr l w (nth (l ++ [zJ]) i) n)
  have h2 := cR_len l w i
  have h3 := onePr_len l w (nth (l ++ [zJ]) i) n
  rw [List.length_append] at h1
  unfold outR; omega
theorem outR_0 (l : List Joint) (w : List Str) (i : Nat) : outR l w i 0 = outI l w i := by unfold outR outI; simp [onePr]
theorem outR_end {l : List Joint} {w : List Str} {i n : Nat} (hi : i < (l ++ [zJ]).length) (hn : n ≤ w.length + 1) (h : w.length < n + (nth (l ++ [zJ]) i).2.2.length) : outR l w i n = outI l w (i + 1) := by
  obtain ⟨d, hd⟩ : ∃ d, w.length + 1 = n + d := ⟨w.length + 1 - n, by omega⟩
  unfold outR outI; rw [cR_succ hi, hd, onePr_stop _ _ _ _ h d]
theorem outR_hit {l : List Joint} {w : List Str} {i n : Nat} (h : (fitsPr (nth (l ++ [zJ]) i) w n && okPr l w (cutPr (nth (l ++ [zJ]) i) w n)) = true) : outR l w i (n + 1) = insC cmpPr (cutPr (nth (l ++ [zJ]) i) w n) (outR l w i n) := by
  unfold outR; rw [onePr_succ, if_pos h, ← List.append_assoc, insAll_snoc]
theorem outR_miss {l : List Joint} {w : List Str} {i n : Nat} (h : (fitsPr (nth (l ++ [zJ]) i) w n && okPr l w (cutPr (nth (l ++ [zJ]) i) w n)) = false) : outR l w i (n + 1) = outR l w i n := by
  unfold outR; rw [onePr_succ, if_neg (by rw [h]; decide), List.append_nil]
theorem outR_asc (l : List Joint) (w : List Str) (i n : Nat) : AscC cmpPr (outR l w i n) := (insAll_ok cmp_cmpPr _).1
theorem outI_end (l : List Joint) (w : List Str) : outI l w (l ++ [zJ]).length = insAll cmpPr (candR l w) := by unfold outI cR candR; rw [List.take_length]
theorem wks_pre : ∀ (a : List AV) {xs ys : List AV}, wks xs ys → wks (a ++ xs) (a ++ ys)
  | [], _, _, h => h
  | x :: a, _, _, h => ⟨Wk.refl x, wks_pre a h⟩
/-- ablaut/ablautref13.into: 2 parameters, 0 captured -/
def s94 : SC := .seq (.reg [o1 3 (.box 47 2 (.t 1)),
   o1 4 (.mv (.c (.slice none 0 0)))])
  (.seq (.seq (.reg [o1 5 (.mv (cI 0))])
    (.block 0 (.loop (.seq (.seq (.reg [o1 8 (.mv (.t 5)),
         o1 9 (.mv (.t 0)),
         o1 10 (.lenL (.t 9)),
         o1 11 (.bin .lss (.t 8) (.t 10))])
        (.cond (.t 11) (.skip) (.exit 0)))
       (.seq (.block 1 (.seq (.regC [(false, o1 14 (.iaddrA 2 1 (.t 3) (cI 0))),
           (false, o1 15 (.load none (.t 14))),
           (false, o1 16 (.mv (.t 0))),
           (false, o1 17 (.mv (.t 5))),
           (false, o1 18 (.iaddr 2 (.t 16) (.t 17))),
           (false, o1 19 (.iaddrA 2 1 (.t 18) (cI 0))),
           (false, o1 20 (.load none (.t 19))),
           (true, o1 21 (.call (.f 24) [(.t 15), (.t 20)])),
           (false, o1 6 (.mv (.t 21)))])
          (.seq (.seq (.reg [o1 22 (.mv (.t 6)),
             o1 23 (.bin .eql (.t 22) (cI 0))])
            (.cond (.t 23) (.regC [(false, o1 24 (.iaddrA 2 1 (.t 3) (cI 1))),
              (false, o1 25 (.load none (.t 24))),
              (false, o1 26 (.mv (.t 0))),
              (false, o1 27 (.mv (.t 5))),
              (false, o1 28 (.iaddr 2 (.t 26) (.t 27))),
              (false, o1 29 (.iaddrA 2 1 (.t 28) (cI 1))),
              (false, o1 30 (.load none (.t 29))),
              (true, o1 31 (.call (.f 24) [(.t 25), (.t 30)])),
              (false, o1 6 (.mv (.t 31)))]) (.skip)))
           (.seq (.seq (.reg [o1 32 (.mv (.t 6)),
              o1 33 (.bin .eql (.t 32) (cI 0))])
             (.cond (.t 33) (.seq (.reg [o1 34 (.mv (.t 0)),
                o1 4 (.mv (.t 34))])
               (.ret)) (.skip)))
            (.seq (.reg [o1 35 (.mv (.t 6)),
              o1 36 (.bin .lss (.t 35) (cI 0))])
             (.cond (.t 36) (.seq (.reg [o1 37 (.buildSl 47 2 0 [(.slice none 0 0), (.slice none 0 0)] []),
                o1 38 (.mv (.t 0)),
                o1 39 (.mv (.t 5)),
                o1 40 (.sl 2 (.t 38) none (some (.t 39))),
                o1 41 (.app 47 2 48 (.t 37) (.t 40)),
                o1 7 (.mv (.t 41))])
               (.seq (.reg [o1 42 (.mv (.t 7)),
                 o1 43 (.load (some 2) (.t 3)),
                 o1 44 (.buildSl 47 2 1 [(.slice none 0 0), (.slice none 0 0)] [(0, 2, (.t 43))]),
                 o1 45 (.app 47 2 48 (.t 42) (.t 44)),
                 o1 7 (.mv (.t 45))])
                (.seq (.reg [o1 46 (.mv (.t 7)),
                  o1 47 (.mv (.t 0)),
                  o1 48 (.mv (.t 5)),
                  o1 49 (.sl 2 (.t 47) (some (.t 48)) none),
                  o1 50 (.app 47 2 48 (.t 46) (.t 49)),
                  o1 4 (.mv (.t 50))])
                 (.ret)))) (.skip)))))))
        (.reg [o1 12 (.mv (.t 5)),
         o1 13 (.bin .add (.t 12) (cI 1)),
         o1 5 (.mv (.t 13))]))))))
   (.seq (.reg [o1 51 (.mv (.t 0)),
     o1 52 (.load (some 2) (.t 3)),
     o1 53 (.buildSl 47 2 1 [(.slice none 0 0), (.slice none 0 0)] [(0, 2, (.t 52))]),
     o1 54 (.app 47 2 48 (.t 51) (.t 53)),
     o1 4 (.mv (.t 54))])
    (.ret)))
theorem s94_ok : lookF Try.prog 94 = some (s94, 55, [.tmp 4]) := by kernel_rfl
/-- ablaut/ablautref13.Unsandhi: 2 parameters, 0 captured -/
def s45 : SC := .seq (.reg [o1 4 (.mv (.c (.slice none 0 0))),
   o1 5 (.mv (cI 0))])
  (.seq (.seq (.reg [o1 15 (.mv (.t 0)),
     o1 16 (.call (.f 70) [(.t 15)]),
     o1 6 (.mv (.t 16))])
    (.seq (.reg [o1 17 (.mv (.t 6)),
      o1 18 (.bin .neq (.t 17) (cI 0))])
     (.cond (.t 18) (.seq (.reg [o1 19 (.mv (.t 6)),
        o1 4 (.mv (.c (.slice none 0 0))),
        o1 5 (.mv (.t 19))])
       (.ret)) (.skip))))
   (.seq (.seq (.reg [o1 20 (.mv (.t 1)),
      o1 21 (.call (.f 83) [(.t 20)]),
      o1 7 (.mv (.t 21))])
     (.seq (.reg [o1 22 (.mv (.t 7)),
       o1 23 (.bin .neq (.t 22) (cI 0))])
      (.cond (.t 23) (.seq (.reg [o1 24 (.mv (.t 7)),
         o1 4 (.mv (.c (.slice none 0 0))),
         o1 5 (.mv (.t 24))])
        (.ret)) (.skip))))
    (.seq (.seq (.reg [o1 25 (.mv (.t 1)),
       o1 26 (.lenL (.t 25)),
       o1 27 (.bin .gtr (.t 26) (cI 14))])
      (.cond (.t 27) (.seq (.reg [o1 4 (.mv (.c (.slice none 0 0))),
         o1 5 (.mv (cI 3))])
        (.ret)) (.skip)))
     (.seq (.reg [o1 8 (.mv (.c (.slice none 0 0)))])
      (.seq (.reg [o1 28 (.buildSl 83 3 0 [(.slice none 0 0), (.slice none 0 0), (.slice none 0 0)] []),
        o1 29 (.mv (.t 0)),
        o1 30 (.app 83 3 72 (.t 28) (.t 29)),
        o1 31 (.build [(.slice none 0 0), (.slice none 0 0), (.slice none 0 0)] []),
        o1 32 (.buildSl 83 3 1 [(.slice none 0 0), (.slice none 0 0), (.slice none 0 0)] [(0, 3, (.t 31))]),
        o1 33 (.app 83 3 72 (.t 30) (.t 32)),
        o1 9 (.mv (.t 33))])
       (.seq (.seq (.reg [o1 10 (.mv (cI 0))])
         (.block 0 (.loop (.seq (.seq (.reg [o1 34 (.mv (.t 10)),
              o1 35 (.mv (.t 9)),
              o1 36 (.lenL (.t 35)),
              o1 37 (.bin .lss (.t 34) (.t 36))])
             (.cond (.t 37) (.skip) (.exit 0)))
            (.seq (.block 1 (.seq (.reg [o1 40 (.mv (.t 9)),
                o1 41 (.mv (.t 10)),
                o1 42 (.iaddr 3 (.t 40) (.t 41)),
                o1 43 (.load (some 3) (.t 42)),
                o1 11 (.alloc 83 3 [(.slice none 0 0), (.slice none 0 0), (.slice none 0 0)]),
                o0 (.store 3 (.t 11) (.t 43))])
               (.seq (.reg [o1 12 (.mv (cI 0))])
                (.block 2 (.loop (.seq (.seq (.reg [o1 44 (.mv (.t 12)),
                     o1 45 (.faddr 2 (.t 11)),
                     o1 46 (.load none (.t 45)),
                     o1 47 (.lenL (.t 46)),
                     o1 48 (.bin .add (.t 44) (.t 47)),
                     o1 49 (.mv (.t 1)),
                     o1 50 (.lenL (.t 49)),
                     o1 51 (.bin .leq (.t 48) (.t 50))])
                    (.cond (.t 51) (.skip) (.exit 2)))
                   (.seq (.block 3 (.seq (.seq (.regC [(false, o1 54 (.mv (.t 1))),
                        (false, o1 55 (.mv (.t 12))),
                        (false, o1 56 (.mv (.t 12))),
                        (false, o1 57 (.faddr 2 (.t 11))),
                        (false, o1 58 (.load none (.t 57))),
                        (false, o1 59 (.lenL (.t 58))),
                        (false, o1 60 (.bin .add (.t 56) (.t 59))),
                        (false, o1 61 (.sl 1 (.t 54) (some (.t 55)) (some (.t 60)))),
                        (false, o1 62 (.faddr 2 (.t 11))),
                        (false, o1 63 (.load none (.t 62))),
                        (true, o1 64 (.call (.f 22) [(.t 61), (.t 63)])),
                        (false, o1 65 (.un .not (.t 64)))])
                       (.cond (.t 65) (.exit 3) (.skip)))
                      (.seq (.regC [(false, o1 66 (.mv (.t 1))),
                        (false, o1 67 (.mv (.t 12))),
                        (false, o1 68 (.sl 1 (.t 66) none (some (.t 67)))),
                        (false, o1 69 (.faddr 0 (.t 11))),
                        (false, o1 70 (.load none (.t 69))),
                        (false, o1 71 (.call (.f 28) [(.t 68), (.t 70)])),
                        (false, o1 72 (.faddr 1 (.t 11))),
                        (false, o1 73 (.load none (.t 72))),
                        (false, o1 74 (.mv (.t 1))),
                        (false, o1 75 (.mv (.t 12))),
                        (false, o1 76 (.faddr 2 (.t 11))),
                        (false, o1 77 (.load none (.t 76))),
                        (false, o1 78 (.lenL (.t 77))),
                        (false, o1 79 (.bin .add (.t 75) (.t 78))),
                        (false, o1 80 (.sl 1 (.t 74) (some (.t 79)) none)),
                        (true, o1 81 (.call (.f 28) [(.t 73), (.t 80)])),
                        (false, o1 13 (.mv (.t 71))),
                        (false, o1 14 (.mv (.t 81)))])
                       (.seq (.reg [o1 82 (.mv (.t 13)),
                         o1 83 (.lenL (.t 82)),
                         o1 84 (.bin .gtr (.t 83) (cI 0)),
                         o1 85 (.mv (.t 84)),
                         oT 86 (.mv (.t 14)) 85,
                         oT 87 (.lenL (.t 86)) 85,
                         oT 88 (.bin .gtr (.t 87) (cI 0)) 85,
                         o1 89 (.pick (.t 85) (.t 88) (cB false)),
                         o1 90 (.mv (.t 89)),
                         oT 91 (.mv (.t 13)) 90,
                         oT 92 (.lenL (.t 91)) 90,
                         oT 93 (.bin .leq (.t 92) (cI 60)) 90,
                         o1 94 (.pick (.t 90) (.t 93) (cB false)),
                         o1 95 (.mv (.t 94)),
                         oT 96 (.mv (.t 14)) 95,
                         oT 97 (.lenL (.t 96)) 95,
                         oT 98 (.bin .leq (.t 97) (cI 60)) 95,
                         o1 99 (.pick (.t 95) (.t 98) (cB false)),
                         o1 100 (.mv (.t 99)),
                         oT 101 (.mv (.t 0)) 100,
                         oT 102 (.mv (.t 13)) 100,
                         oT 103 (.mv (.t 14)) 100,
                         oT 104 (.call (.f 72) [(.t 101), (.t 102), (.t 103)]) 100,
                         oT 105 (.mv (.t 1)) 100,
                         oT 106 (.call (.f 22) [(.t 104), (.t 105)]) 100,
                         o1 107 (.pick (.t 100) (.t 106) (cB false))])
                        (.cond (.t 107) (.reg [o1 108 (.mv (.t 8)),
                          o1 109 (.mv (.t 13)),
                          o1 110 (.mv (.t 14)),
                          o1 111 (.build [(.slice none 0 0), (.slice none 0 0)] [(0, 1, (.t 109)), (1, 1, (.t 110))]),
                          o1 112 (.call (.f 94) [(.t 108), (.t 111)]),
                          o1 8 (.mv (.t 112))]) (.skip))))))
                    (.reg [o1 52 (.mv (.t 12)),
                     o1 53 (.bin .add (.t 52) (cI 1)),
                     o1 12 (.mv (.t 53))]))))))))
             (.reg [o1 38 (.mv (.t 10)),
              o1 39 (.bin .add (.t 38) (cI 1)),
              o1 10 (.mv (.t 39))]))))))
        (.seq (.reg [o1 113 (.mv (.t 8)),
          o1 4 (.mv (.t 113)),
          o1 5 (.mv (cI 0))])
         (.ret))))))))
theorem s45_ok : lookF Try.prog 45 = some (s45, 114, [.tmp 4, .tmp 5]) := by kernel_rfl
set_option maxHeartbeats 2000000 in
set_option maxRecDepth 10000 in
theorem rUnsandhi_ok (l : List Joint) (w : List Str) : Fn P 45 [sl l, sl w] (.tup [sl (unT l w).1, intA (unT l w).2]) := by
  have c1 := rJoints_ok l
  have c2 := refValidateWord_ok w
  have hwe : wordsErr [w] = wordErr w := by simp only [wordsErr]; split <;> omega
  by_cases h1 : jntErr l ≠ 0
  · rw [unT, if_pos h1]
    (refine fn_look s45_ok (by simp) (by intro k; simp only [go_sem, Nat.reduceEqDiff, ↓reduceIte, reduceCtorEq, Nat.reduceAdd, Nat.reduceMul, Int.reduceToNat, List.reduceReplicate, Nat.reduceLeDiff, Nat.reduceLT, Int.reduceLT, Int.reduceLE, Int.reduceEq]) fun S hS => cwp_sound _ _ _ _ ?_; simp (maxSteps := 900000) (disch := omega) only [s45, go_sem, Nat.reduceEqDiff, ↓reduceIte, reduceCtorEq, Nat.reduceAdd, Nat.reduceMul, Int.reduceToNat, List.reduceReplicate, Nat.reduceLeDiff, Nat.reduceLT, Int.reduceLT, Int.reduceLE, Int.reduceEq])
    repeat' (first | with_reducible refine inw ?_ | simp (maxSteps := 900000) (disch := omega) only [go_sem, Nat.reduceEqDiff, ↓reduceIte, reduceCtorEq, Nat.reduceAdd, Nat.reduceMul, Int.reduceToNat, List.reduceReplicate, Nat.reduceLeDiff, Nat.reduceLT, Int.reduceLT, Int.reduceLE, Int.reduceEq] | (with_reducible apply call (c1)); (focus simp (maxSteps := 900000) (disch := omega) only [go_sem, Nat.reduceEqDiff, ↓reduceIte, reduceCtorEq, Nat.reduceAdd, Nat.reduceMul, Int.reduceToNat, List.reduceReplicate, Nat.reduceLeDiff, Nat.reduceLT, Int.reduceLT, Int.reduceLE, Int.reduceEq] <;> rfl) | (with_reducible apply call (c2)); (focus simp (maxSteps := 900000) (disch := omega) only [go_sem, Nat.reduceEqDiff, ↓reduceIte, reduceCtorEq, Nat.reduceAdd, Nat.reduceMul, Int.reduceToNat, List.reduceReplicate, Nat.reduceLeDiff, Nat.reduceLT, Int.reduceLT, Int.reduceLE, Int.reduceEq] <;> rfl) | with_reducible refine pickB_f ?_ | with_reducible refine giv_intro fun _h => ?_ | with_reducible refine alt_intro ?_ fun _h => ?_ | with_reducible refine pickD_nil ?_ | (with_reducible refine brc (fun _h => ?_) fun _h => ?_) <;> first | (exfalso; omega) | simp only [decide_eq_false _h] | simp only [(_h : (_ : Bool) = _)] | simp only [decide_eq_true _h] | skip)
    all_goals first | rfl | (exfalso; omega)
  by_cases h2 : wordErr w ≠ 0
  · rw [unT, if_neg h1, hwe, if_pos h2]
    (refine fn_look s45_ok (by simp) (by intro k; simp only [go_sem, Nat.reduceEqDiff, ↓reduceIte, reduceCtorEq, Nat.reduceAdd, Nat.reduceMul, Int.reduceToNat, List.reduceReplicate, Nat.reduceLeDiff, Nat.reduceLT, Int.reduceLT, Int.reduceLE, Int.reduceEq]) fun S hS => cwp_sound _ _ _ _ ?_; simp (maxSteps := 900000) (disch := omega) only [s45, go_sem, Nat.reduceEqDiff, ↓reduceIte, reduceCtorEq, Nat.reduceAdd, Nat.reduceMul, Int.reduceToNat, List.reduceReplicate, Nat.reduceLeDiff, Nat.reduceLT, Int.reduceLT, Int.reduceLE, Int.reduceEq])
    repeat' (first | with_reducible refine inw ?_ | simp (maxSteps := 900000) (disch := omega) only [go_sem, Nat.reduceEqDiff, ↓reduceIte, reduceCtorEq, Nat.reduceAdd, Nat.reduceMul, Int.reduceToNat, List.reduceReplicate, Nat.reduceLeDiff, Nat.reduceLT, Int.reduceLT, Int.reduceLE, Int.reduceEq] | (with_reducible apply call (c1)); (focus simp (maxSteps := 900000) (disch := omega) only [go_sem, Nat.reduceEqDiff, ↓reduceIte, reduceCtorEq, Nat.reduceAdd, Nat.reduceMul, Int.reduceToNat, List.reduceReplicate, Nat.reduceLeDiff, Nat.reduceLT, Int.reduceLT, Int.reduceLE, Int.reduceEq] <;> rfl) | (with_reducible apply call (c2)); (focus simp (maxSteps := 900000) (disch := omega) only [go_sem, Nat.reduceEqDiff, ↓reduceIte, reduceCtorEq, Nat.reduceAdd, Nat.reduceMul, Int.reduceToNat, List.reduceReplicate, Nat.reduceLeDiff, Nat.reduceLT, Int.reduceLT, Int.reduceLE, Int.reduceEq] <;> rfl) | with_reducible refine pickB_f ?_ | with_reducible refine giv_intro fun _h => ?_ | with_reducible refine alt_intro ?_ fun _h => ?_ | with_reducible refine pickD_nil ?_ | (with_reducible refine brc (fun _h => ?_) fun _h => ?_) <;> first | (exfalso; omega) | simp only [decide_eq_false _h] | simp only [(_h : (_ : Bool) = _)] | simp only [decide_eq_true _h] | skip)
    all_goals first | rfl | (exfalso; omega)
  by_cases h3 : 14 < w.length
  · rw [unT, if_neg h1, hwe, if_neg h2, if_pos h3]
    (refine fn_look s45_ok (by simp) (by intro k; simp only [go_sem, Nat.reduceEqDiff, ↓reduceIte, reduceCtorEq, Nat.reduceAdd, Nat.reduceMul, Int.reduceToNat, List.reduceReplicate, Nat.reduceLeDiff, Nat.reduceLT, Int.reduceLT, Int.reduceLE, Int.reduceEq]) fun S hS => cwp_sound _ _ _ _ ?_; simp (maxSteps := 900000) (disch := omega) only [s45, go_sem, Nat.reduceEqDiff, ↓reduceIte, reduceCtorEq, Nat.reduceAdd, Nat.reduceMul, Int.reduceToNat, List.reduceReplicate, Nat.reduceLeDiff, Nat.reduceLT, Int.reduceLT, Int.reduceLE, Int.reduceEq])
    repeat' (first | with_reducible refine inw ?_ | simp (maxSteps := 900000) (disch := omega) only [go_sem, Nat.reduceEqDiff, ↓reduceIte, reduceCtorEq, Nat.reduceAdd, Nat.reduceMul, Int.reduceToNat, List.reduceReplicate, Nat.reduceLeDiff, Nat.reduceLT, Int.reduceLT, Int.reduceLE, Int.reduceEq] | (with_reducible apply call (c1)); (focus simp (maxSteps := 900000) (disch := omega) only [go_sem, Nat.reduceEqDiff, ↓reduceIte, reduceCtorEq, Nat.reduceAdd, Nat.reduceMul, Int.reduceToNat, List.reduceReplicate, Nat.reduceLeDiff, Nat.reduceLT, Int.reduceLT, Int.reduceLE, Int.reduceEq] <;> rfl) | (with_reducible apply call (c2)); (focus simp (maxSteps := 900000) (disch := omega) only [go_sem, Nat.reduceEqDiff, ↓reduceIte, reduceCtorEq, Nat.reduceAdd, Nat.reduceMul, Int.reduceToNat, List.reduceReplicate, Nat.reduceLeDiff, Nat.reduceLT, Int.reduceLT, Int.reduceLE, Int.reduceEq] <;> rfl) | with_reducible refine pickB_f ?_ | with_reducible refine giv_intro fun _h => ?_ | with_reducible refine alt_intro ?_ fun _h => ?_ | with_reducible refine pickD_nil ?_ | (with_reducible refine brc (fun _h => ?_) fun _h => ?_) <;> first | (exfalso; omega) | simp only [decide_eq_false _h] | simp only [(_h : (_ : Bool) = _)] | simp only [decide_eq_true _h] | skip)
    all_goals first | rfl | (exfalso; omega)
  rw [unT, if_neg h1, hwe, if_neg h2, if_neg h3]
  have hj0 : jntErr l = 0 := by omega
  have hll : l.length ≤ 24 := by
    unfold jntErr at hj0
    split at hj0
    · cases hj0
    · omega
  obtain ⟨hg1, hg2⟩ := jnt_good hj0
  have hw60 : w.length ≤ 14 := by omega
  rw [hj0] at c1
  rw [show wordErr w = 0 by omega] at c2
  have z0 : zcells [Value.slice none 0 0, Value.slice none 0 0, Value.slice none 0 0] 0 = [] := rfl
  have z3 : zcells [Value.slice none 0 0, Value.slice none 0 0, Value.slice none 0 0] 3 = [.sc (.slice none 0 0), .sc (.slice none 0 0), .sc (.slice none 0 0)] := rfl
  (refine fn_look s45_ok (by simp) (by intro k; simp only [go_sem, Nat.reduceEqDiff, ↓reduceIte, reduceCtorEq, Nat.reduceAdd, Nat.reduceMul, Int.reduceToNat, List.reduceReplicate, Nat.reduceLeDiff, Nat.reduceLT, Int.reduceLT, Int.reduceLE, Int.reduceEq]) fun S hS => cwp_sound _ _ _ _ ?_; simp (maxSteps := 900000) (disch := omega) only [s45, go_sem, Nat.reduceEqDiff, ↓reduceIte, reduceCtorEq, Nat.reduceAdd, Nat.reduceMul, Int.reduceToNat, List.reduceReplicate, Nat.reduceLeDiff, Nat.reduceLT, Int.reduceLT, Int.reduceLE, Int.reduceEq])
  repeat' (first | with_reducible refine inw ?_ | simp (maxSteps := 900000) (disch := omega) only [go_sem, Nat.reduceEqDiff, ↓reduceIte, reduceCtorEq, Nat.reduceAdd, Nat.reduceMul, Int.reduceToNat, List.reduceReplicate, Nat.reduceLeDiff, Nat.reduceLT, Int.reduceLT, Int.reduceLE, Int.reduceEq, z0, z3] | (with_reducible apply call (c1)); (focus simp (maxSteps := 900000) (disch := omega) only [go_sem, Nat.reduceEqDiff, ↓reduceIte, reduceCtorEq, Nat.reduceAdd, Nat.reduceMul, Int.reduceToNat, List.reduceReplicate, Nat.reduceLeDiff, Nat.reduceLT, Int.reduceLT, Int.reduceLE, Int.reduceEq, z0, z3] <;> rfl) | (with_reducible apply call (c2)); (focus simp (maxSteps := 900000) (disch := omega) only [go_sem, Nat.reduceEqDiff, ↓reduceIte, reduceCtorEq, Nat.reduceAdd, Nat.reduceMul, Int.reduceToNat, List.reduceReplicate, Nat.reduceLeDiff, Nat.reduceLT, Int.reduceLT, Int.reduceLE, Int.reduceEq, z0, z3] <;> rfl) | with_reducible refine pickB_f ?_ | with_reducible refine giv_intro fun _h => ?_ | with_reducible refine alt_intro ?_ fun _h => ?_ | with_reducible refine pickD_nil ?_ | (with_reducible refine brc (fun _h => ?_) fun _h => ?_) <;> first | (exfalso; omega) | simp only [decide_eq_false _h] | simp only [(_h : (_ : Bool) = _)] | simp only [decide_eq_true _h] | skip)
  have hJl : (l ++ [zJ]).length = l.length + 1 := by rw [List.length_append, List.length_singleton]
  have hJc : ∀ j ∈ l ++ [zJ], j.1.length ≤ 1000 ∧ j.2.1.length ≤ 1000 ∧ j.2.2.length ≤ 1000 := fun j hj => by
    rcases List.mem_append.1 hj with hj | hj
    · exact hg1 j hj
    · rw [List.mem_singleton] at hj; subst hj; simp [zJ]
  refine retype 0 83 (l ++ [zJ]) rfl (by rw [← cellsL_app]; exact wks_pre _ ⟨wk_nilsl, wk_nilsl, wk_nilsl, (trivial : wks [] [])⟩) ?_
  simp only [List.set_cons_zero]
  refine freezeF 9 0 83 (l ++ [zJ]) (by simp (maxSteps := 900000) (disch := omega) only [go_sem, Nat.reduceEqDiff, ↓reduceIte, reduceCtorEq, Nat.reduceAdd, Nat.reduceMul, Int.reduceToNat, List.reduceReplicate, Nat.reduceLeDiff, Nat.reduceLT, Int.reduceLT, Int.reduceLE, Int.reduceEq]; simp only [own, hJl]; first | exact ⟨trivial, rfl⟩ | exact ⟨rfl, trivial⟩ | trivial | exact ⟨trivial, trivial⟩) (by simp (maxSteps := 900000) (disch := omega) only [go_sem, Nat.reduceEqDiff, ↓reduceIte, reduceCtorEq, Nat.reduceAdd, Nat.reduceMul, Int.reduceToNat, List.reduceReplicate, Nat.reduceLeDiff, Nat.reduceLT, Int.reduceLT, Int.reduceLE, Int.reduceEq]) (by simp) ?_
  refine nil_row 8 47 2 (by simp (maxSteps := 900000) (disch := omega) only [go_sem, Nat.reduceEqDiff, ↓reduceIte, reduceCtorEq, Nat.reduceAdd, Nat.reduceMul, Int.reduceToNat, List.reduceReplicate, Nat.reduceLeDiff, Nat.reduceLT, Int.reduceLT, Int.reduceLE, Int.reduceEq]) ?_
  simp only [List.set_cons_zero, List.cons_append, List.nil_append, List.length_cons, List.length_nil, Nat.zero_add, Nat.reduceAdd]
  (refine loopC hS [0, 1] (by simp only [go_sem, Nat.reduceEqDiff, ↓reduceIte, reduceCtorEq, Nat.reduceAdd, Nat.reduceMul, Int.reduceToNat, List.reduceReplicate, Nat.reduceLeDiff, Nat.reduceLT, Int.reduceLT, Int.reduceLE, Int.reduceEq]; try rfl) (fun (i : Nat) => [(8, own S 2 (outI l w i)), (9, sl (l ++ [zJ])), (10, intA i)]) (fun (i : Nat) => [none, none, rowO 47 (outI l w i)]) (fun (i : Nat) => i ≤ (l ++ [zJ]).length) (fun (i : Nat) => (l ++ [zJ]).length - i) (0) ?_ (by intro s; first | (simp only [List.length_cons, List.length_nil]; done) | rfl | (rcases s with ⟨_, _⟩; rfl) | (rcases s with ⟨_, _, _⟩; rfl) | (rcases s with ⟨_, _, _, _⟩; rfl) | (rcases s with ⟨_, _, _, _, _⟩; rfl)) ?_)
  · simp (maxSteps := 900000) (disch := omega) only [go_sem, Nat.reduceEqDiff, ↓reduceIte, reduceCtorEq, Nat.reduceAdd, Nat.reduceMul, Int.reduceToNat, List.reduceReplicate, Nat.reduceLeDiff, Nat.reduceLT, Int.reduceLT, Int.reduceLE, Int.reduceEq]
    refine ⟨Nat.zero_le _, ?_⟩
    first | exact ⟨rfl, rfl⟩ | exact ⟨⟨rfl, rfl⟩, rfl⟩ | exact ⟨⟨rfl, rfl, rfl⟩, rfl⟩ | exact ⟨rfl, rfl, rfl⟩
  rintro i hi
  replace hi : i ≤ (l ++ [zJ]).length := hi
  by_cases hil : i < (l ++ [zJ]).length
  · have eC : ((cellsL (l ++ [zJ])).drop (i * 3)).take 3 = [sl (nth (l ++ [zJ]) i).1, sl (nth (l ++ [zJ]) i).2.1, sl (nth (l ++ [zJ]) i).2.2] := by rw [cellsL_drop, nth_drop hil]; rfl
    repeat' (first | with_reducible refine inw ?_ | simp (maxSteps := 900000) (disch := omega) only [go_sem, Nat.reduceEqDiff, ↓reduceIte, reduceCtorEq, Nat.reduceAdd, Nat.reduceMul, Int.reduceToNat, List.reduceReplicate, Nat.reduceLeDiff, Nat.reduceLT, Int.reduceLT, Int.reduceLE, Int.reduceEq, eC, z3] | with_reducible refine pickB_f ?_ | with_reducible refine giv_intro fun _h => ?_ | with_reducible refine alt_intro ?_ fun _h => ?_ | with_reducible refine pickD_nil ?_ | (with_reducible refine brc (fun _h => ?_) fun _h => ?_) <;> first | (exfalso; omega) | simp only [decide_eq_false _h] | simp only [(_h : (_ : Bool) = _)] | simp only [decide_eq_true _h] | skip)
    have hjc := hJc _ (nth_mem hil)
    have hoe := @outR_end l w i
    have hoh := @outR_hit l w i
    have hom := @outR_miss l w i
    (refine loopV hS [0, 1, 9, 10, 11] (by simp only [go_sem, Nat.reduceEqDiff, ↓reduceIte, reduceCtorEq, Nat.reduceAdd, Nat.reduceMul, Int.reduceToNat, List.reduceReplicate, Nat.reduceLeDiff, Nat.reduceLT, Int.reduceLT, Int.reduceLE, Int.reduceEq]; try rfl) (fun (n : Nat) => [(8, own S 2 (outR l w i n)), (12, intA n)]) (fun (n : Nat) => [none, none, rowO 47 (outR l w i n), some (.row 83 3 [sl (nth (l ++ [zJ]) i).1, sl (nth (l ++ [zJ]) i).2.1, sl (nth (l ++ [zJ]) i).2.2])]) (fun (n : Nat) => n ≤ w.length + 1) (fun (n : Nat) => w.length + 1 - n) (0) ?_ (by intro s; first | (simp only [List.length_cons, List.length_nil]; done) | rfl | (rcases s with ⟨_, _⟩; rfl) | (rcases s with ⟨_, _, _⟩; rfl) | (rcases s with ⟨_, _, _, _⟩; rfl) | (rcases s with ⟨_, _, _, _, _⟩; rfl)) ?_)
    · simp (maxSteps := 900000) (disch := omega) only [go_sem, Nat.reduceEqDiff, ↓reduceIte, reduceCtorEq, Nat.reduceAdd, Nat.reduceMul, Int.reduceToNat, List.reduceReplicate, Nat.reduceLeDiff, Nat.reduceLT, Int.reduceLT, Int.reduceLE, Int.reduceEq]
      rw [outR_0]
      exact ⟨⟨rfl, rfl⟩, rfl⟩
    rintro n hn
    replace hn : n ≤ w.length + 1 := hn
    have hol := outR_len l w i n
    have hol2 : i * (w.length + 1) ≤ 25 * 15 := Nat.mul_le_mul (by omega) (by omega)
    have hasc := outR_asc l w i n
    generalize nth (l ++ [zJ]) i = j at *
    replace hoh := @hoh n
    replace hom := @hom n
    by_cases hf : n + j.2.2.length ≤ w.length
    · have f1 : n + j.2.2.length - n = j.2.2.length := by omega
      have f2 : ((n : Int) + j.2.2.length).toNat = n + j.2.2.length := by omega
      have s1 := Same_ok ((w.drop n).take j.2.2.length) j.2.2
      have s1l : ((w.drop n).take j.2.2.length).length = j.2.2.length := by rw [List.length_take, List.length_drop]; omega
      by_cases hs : (w.drop n).take j.2.2.length = j.2.2
      · rw [decide_eq_true hs] at s1
        have m1 := join_ok (w.take n) j.1 (by rw [List.length_take]; omega)
        have m2 := join_ok j.2.1 (w.drop (n + j.2.2.length)) (by rw [List.length_drop]; omega)
        have e8 : List.take (w.length - (n + j.2.2.length)) (List.drop (n + j.2.2.length) w) = List.drop (n + j.2.2.length) w := List.take_of_length_le (by rw [List.length_drop]; exact Nat.le_refl _)
        have g0 : fitsPr j w n = true := by simp [fitsPr, hf, hs]
        rw [show w.take n ++ j.1 = (cutPr j w n).1 from rfl] at m1
        rw [show j.2.1 ++ w.drop (n + j.2.2.length) = (cutPr j w n).2 from rfl] at m2
        rw [g0, Bool.true_and] at hoh hom
        have sz : (cutPr j w n).1.length ≤ 1014 ∧ (cutPr j w n).2.length ≤ 1014 := by
          simp only [cutPr, List.length_append, List.length_take, List.length_drop]; omega
        generalize cutPr j w n = c at *
        have s2 := sandhi_ok l c.1 c.2 hg1 hg2 (by omega) (by omega)
        have s3 := Same_ok (joinL l c.1 c.2) w
        cases hok : okPr l w c
        case' false =>
          have hm2 := hom hok
          by_cases o5 : joinL l c.1 c.2 = w
          case' pos =>
            simp only [okPr, o5, decide_true, Bool.and_true] at hok
            repeat' (first | with_reducible refine inw ?_ | simp (maxSteps := 900000) (disch := omega) only [go_sem, Nat.reduceEqDiff, ↓reduceIte, reduceCtorEq, Nat.reduceAdd, Nat.reduceMul, Int.reduceToNat, List.reduceReplicate, Nat.reduceLeDiff, Nat.reduceLT, Int.reduceLT, Int.reduceLE, Int.reduceEq, f1, f2, e8] | with_reducible refine pickB_t ?_ | (with_reducible apply call_D (s1)); (focus simp (maxSteps := 900000) (disch := omega) only [go_sem, Nat.reduceEqDiff, ↓reduceIte, reduceCtorEq, Nat.reduceAdd, Nat.reduceMul, Int.reduceToNat, List.reduceReplicate, Nat.reduceLeDiff, Nat.reduceLT, Int.reduceLT, Int.reduceLE, Int.reduceEq, f1, f2, e8] <;> rfl) | (with_reducible apply call (s1)); (focus simp (maxSteps := 900000) (disch := omega) only [go_sem, Nat.reduceEqDiff, ↓reduceIte, reduceCtorEq, Nat.reduceAdd, Nat.reduceMul, Int.reduceToNat, List.reduceReplicate, Nat.reduceLeDiff, Nat.reduceLT, Int.reduceLT, Int.reduceLE, Int.reduceEq, f1, f2, e8] <;> rfl) | (with_reducible apply call_D (m1)); (focus simp (maxSteps := 900000) (disch := omega) only [go_sem, Nat.reduceEqDiff, ↓reduceIte, reduceCtorEq, Nat.reduceAdd, Nat.reduceMul, Int.reduceToNat, List.reduceReplicate, Nat.reduceLeDiff, Nat.reduceLT, Int.reduceLT, Int.reduceLE, Int.reduceEq, f1, f2, e8] <;> rfl) | (with_reducible apply call (m2)); (focus simp (maxSteps := 900000) (disch := omega) only [go_sem, Nat.reduceEqDiff, ↓reduceIte, reduceCtorEq, Nat.reduceAdd, Nat.reduceMul, Int.reduceToNat, List.reduceReplicate, Nat.reduceLeDiff, Nat.reduceLT, Int.reduceLT, Int.reduceLE, Int.reduceEq, f1, f2, e8] <;> rfl) | with_reducible refine pickB_f ?_ | with_reducible refine giv_intro fun _h => ?_ | with_reducible refine alt_intro ?_ fun _h => ?_ | with_reducible refine pickD_nil ?_ | (with_reducible refine brc (fun _h => ?_) fun _h => ?_) <;> first | (exfalso; omega) | simp only [decide_eq_false _h] | simp only [(_h : (_ : Bool) = _)] | simp only [decide_eq_true _h] | skip)
          case' neg =>
            rw [decide_eq_false o5] at s3
            repeat' (first | with_reducible refine inw ?_ | simp (maxSteps := 900000) (disch := omega) only [go_sem, Nat.reduceEqDiff, ↓reduceIte, reduceCtorEq, Nat.reduceAdd, Nat.reduceMul, Int.reduceToNat, List.reduceReplicate, Nat.reduceLeDiff, Nat.reduceLT, Int.reduceLT, Int.reduceLE, Int.reduceEq, f1, f2, e8] | with_reducible refine pickB_t ?_ | (with_reducible apply call_D (s1)); (focus simp (maxSteps := 900000) (disch := omega) only [go_sem, Nat.reduceEqDiff, ↓reduceIte, reduceCtorEq, Nat.reduceAdd, Nat.reduceMul, Int.reduceToNat, List.reduceReplicate, Nat.reduceLeDiff, Nat.reduceLT, Int.reduceLT, Int.reduceLE, Int.reduceEq, f1, f2, e8] <;> rfl) | (with_reducible apply call (s1)); (focus simp (maxSteps := 900000) (disch := omega) only [go_sem, Nat.reduceEqDiff, ↓reduceIte, reduceCtorEq, Nat.reduceAdd, Nat.reduceMul, Int.reduceToNat, List.reduceReplicate, Nat.reduceLeDiff, Nat.reduceLT, Int.reduceLT, Int.reduceLE, Int.reduceEq, f1, f2, e8] <;> rfl) | (with_reducible apply call_D (m1)); (focus simp (maxSteps := 900000) (disch := omega) only [go_sem, Nat.reduceEqDiff, ↓reduceIte, reduceCtorEq, Nat.reduceAdd, Nat.reduceMul, Int.reduceToNat, List.reduceReplicate, Nat.reduceLeDiff, Nat.reduceLT, Int.reduceLT, Int.reduceLE, Int.reduceEq, f1, f2, e8] <;> rfl) | (with_reducible apply call (m2)); (focus simp (maxSteps := 900000) (disch := omega) only [go_sem, Nat.reduceEqDiff, ↓reduceIte, reduceCtorEq, Nat.reduceAdd, Nat.reduceMul, Int.reduceToNat, List.reduceReplicate, Nat.reduceLeDiff, Nat.reduceLT, Int.reduceLT, Int.reduceLE, Int.reduceEq, f1, f2, e8] <;> rfl) | (with_reducible apply call (s2)); (focus simp (maxSteps := 900000) (disch := omega) only [go_sem, Nat.reduceEqDiff, ↓reduceIte, reduceCtorEq, Nat.reduceAdd, Nat.reduceMul, Int.reduceToNat, List.reduceReplicate, Nat.reduceLeDiff, Nat.reduceLT, Int.reduceLT, Int.reduceLE, Int.reduceEq, f1, f2, e8] <;> rfl) | (with_reducible apply call (s3)); (focus simp (maxSteps := 900000) (disch := omega) only [go_sem, Nat.reduceEqDiff, ↓reduceIte, reduceCtorEq, Nat.reduceAdd, Nat.reduceMul, Int.reduceToNat, List.reduceReplicate, Nat.reduceLeDiff, Nat.reduceLT, Int.reduceLT, Int.reduceLE, Int.reduceEq, f1, f2, e8] <;> rfl) | with_reducible refine pickB_f ?_ | with_reducible refine giv_intro fun _h => ?_ | with_reducible refine alt_intro ?_ fun _h => ?_ | with_reducible refine pickD_nil ?_ | (with_reducible refine brc (fun _h => ?_) fun _h => ?_) <;> first | (exfalso; omega) | simp only [decide_eq_false _h] | simp only [(_h : (_ : Bool) = _)] | simp only [decide_eq_true _h] | skip)
          all_goals first
            | (refine viewed_done ?_
               simp (maxSteps := 900000) (disch := omega) only [go_sem, Nat.reduceEqDiff, ↓reduceIte, reduceCtorEq, Nat.reduceAdd, Nat.reduceMul, Int.reduceToNat, List.reduceReplicate, Nat.reduceLeDiff, Nat.reduceLT, Int.reduceLT, Int.reduceLE, Int.reduceEq]
               refine ⟨n + 1, ⟨by omega, by omega⟩, ?_⟩
               rw [hm2]
               exact ⟨⟨⟨rfl, rfl⟩, rfl⟩, rfl⟩)
            | (exfalso; simp only [Bool.and_eq_false_iff, decide_eq_false_iff_not] at hok; omega)
        case' true =>
          have hm2 := hoh hok
          simp only [okPr, Bool.and_eq_true, decide_eq_true_eq] at hok
          obtain ⟨⟨⟨⟨o1, o2⟩, o3⟩, o4⟩, o5⟩ := hok
          rw [decide_eq_true o5] at s3
          clear hoh hom hoe
          generalize outR l w i n = out at *
          generalize ho2 : outR l w i (n + 1) = out2 at *
          repeat' (first | with_reducible refine inw ?_ | simp (maxSteps := 900000) (disch := omega) only [go_sem, Nat.reduceEqDiff, ↓reduceIte, reduceCtorEq, Nat.reduceAdd, Nat.reduceMul, Int.reduceToNat, List.reduceReplicate, Nat.reduceLeDiff, Nat.reduceLT, Int.reduceLT, Int.reduceLE, Int.reduceEq, f1, f2, e8] | with_reducible refine pickB_t ?_ | (with_reducible apply call_D (s1)); (focus simp (maxSteps := 900000) (disch := omega) only [go_sem, Nat.reduceEqDiff, ↓reduceIte, reduceCtorEq, Nat.reduceAdd, Nat.reduceMul, Int.reduceToNat, List.reduceReplicate, Nat.reduceLeDiff, Nat.reduceLT, Int.reduceLT, Int.reduceLE, Int.reduceEq, f1, f2, e8] <;> rfl) | (with_reducible apply call (s1)); (focus simp (maxSteps := 900000) (disch := omega) only [go_sem, Nat.reduceEqDiff, ↓reduceIte, reduceCtorEq, Nat.reduceAdd, Nat.reduceMul, Int.reduceToNat, List.reduceReplicate, Nat.reduceLeDiff, Nat.reduceLT, Int.reduceLT, Int.reduceLE, Int.reduceEq, f1, f2, e8] <;> rfl) | (with_reducible apply call_D (m1)); (focus simp (maxSteps := 900000) (disch := omega) only [go_sem, Nat.reduceEqDiff, ↓reduceIte, reduceCtorEq, Nat.reduceAdd, Nat.reduceMul, Int.reduceToNat, List.reduceReplicate, Nat.reduceLeDiff, Nat.reduceLT, Int.reduceLT, Int.reduceLE, Int.reduceEq, f1, f2, e8] <;> rfl) | (with_reducible apply call (m2)); (focus simp (maxSteps := 900000) (disch := omega) only [go_sem, Nat.reduceEqDiff, ↓reduceIte, reduceCtorEq, Nat.reduceAdd, Nat.reduceMul, Int.reduceToNat, List.reduceReplicate, Nat.reduceLeDiff, Nat.reduceLT, Int.reduceLT, Int.reduceLE, Int.reduceEq, f1, f2, e8] <;> rfl) | (with_reducible apply call (s2)); (focus simp (maxSteps := 900000) (disch := omega) only [go_sem, Nat.reduceEqDiff, ↓reduceIte, reduceCtorEq, Nat.reduceAdd, Nat.reduceMul, Int.reduceToNat, List.reduceReplicate, Nat.reduceLeDiff, Nat.reduceLT, Int.reduceLT, Int.reduceLE, Int.reduceEq, f1, f2, e8] <;> rfl) | (with_reducible apply call (s3)); (focus simp (maxSteps := 900000) (disch := omega) only [go_sem, Nat.reduceEqDiff, ↓reduceIte, reduceCtorEq, Nat.reduceAdd, Nat.reduceMul, Int.reduceToNat, List.reduceReplicate, Nat.reduceLeDiff, Nat.reduceLT, Int.reduceLT, Int.reduceLE, Int.reduceEq, f1, f2, e8] <;> rfl) | (with_reducible refine callI s94_ok (by simp) hS (cwp_sound _ _ _ _ ?_)); simp (maxSteps := 900000) (disch := omega) only [s94, go_sem, Nat.reduceEqDiff, ↓reduceIte, reduceCtorEq, Nat.reduceAdd, Nat.reduceMul, Int.reduceToNat, List.reduceReplicate, Nat.reduceLeDiff, Nat.reduceLT, Int.reduceLT, Int.reduceLE, Int.reduceEq, f1, f2, e8] | with_reducible refine pickB_f ?_ | with_reducible refine giv_intro fun _h => ?_ | with_reducible refine alt_intro ?_ fun _h => ?_ | with_reducible refine pickD_nil ?_ | (with_reducible refine brc (fun _h => ?_) fun _h => ?_) <;> first | (exfalso; omega) | simp only [decide_eq_false _h] | simp only [(_h : (_ : Bool) = _)] | simp only [decide_eq_true _h] | skip)
          skip
          (refine loopC hS [0, 3] (by simp only [go_sem, Nat.reduceEqDiff, ↓reduceIte, reduceCtorEq, Nat.reduceAdd, Nat.reduceMul, Int.reduceToNat, List.reduceReplicate, Nat.reduceLeDiff, Nat.reduceLT, Int.reduceLT, Int.reduceLE, Int.reduceEq]; try rfl) (fun (q : Nat) => [(5, intA q)]) (fun (q : Nat) => [none, none, rowO 47 out, some (.row 83 3 [sl j.1, sl j.2.1, sl j.2.2]), some (.row 47 2 [sl c.1, sl c.2])]) (fun (q : Nat) => q ≤ out.length ∧ ∀ r, r < q → cmpPr (nth out r) c < 0) (fun (q : Nat) => out.length - q) (0) ?_ (by intro s; first | (simp only [List.length_cons, List.length_nil]; done) | rfl | (rcases s with ⟨_, _⟩; rfl) | (rcases s with ⟨_, _, _⟩; rfl) | (rcases s with ⟨_, _, _, _⟩; rfl) | (rcases s with ⟨_, _, _, _, _⟩; rfl)) ?_)
          · simp (maxSteps := 900000) (disch := omega) only [go_sem, Nat.reduceEqDiff, ↓reduceIte, reduceCtorEq, Nat.reduceAdd, Nat.reduceMul, Int.reduceToNat, List.reduceReplicate, Nat.reduceLeDiff, Nat.reduceLT, Int.reduceLT, Int.reduceLE, Int.reduceEq]
            exact ⟨Nat.zero_le _, fun r hr => absurd hr (Nat.not_lt_zero _)⟩
          rintro q ⟨hq1, hq2⟩
          replace hq1 : q ≤ out.length := hq1
          replace hq2 : ∀ r, r < q → cmpPr (nth out r) c < 0 := hq2
          have zz0 : zcells [Value.slice none 0 0, Value.slice none 0 0] 0 = [] := rfl
          have zz2 : zcells [Value.slice none 0 0, Value.slice none 0 0] 2 = [.sc (.slice none 0 0), .sc (.slice none 0 0)] := rfl
          have eT : (cellsL out).take (q * 2) = cellsL (out.take q) := cellsL_take _ _
          have eTl : (out.take q).length = q := by rw [List.length_take]; omega
          have eDl : (out.drop q).length = out.length - q := List.length_drop
          have hif : (q * 2 ≤ out.length * 2) = True := eq_true (by omega)
          have hif2 : (q * 2 + (out.length - q) * 2 ≤ out.length * 2) = True := eq_true (by omega)
          have eS : ((cellsL out).drop (q * 2)).take ((out.length - q) * 2) = cellsL (out.drop q) := by
            rw [cellsL_drop, List.take_of_length_le (by rw [cellsL_len, eDl]; exact Nat.le_refl _)]
          have eW : q + 1 + (out.length - q) = out.length + 1 := by omega
          by_cases hql : q < out.length
          · have x0 := pr_0 hql
            have x1 := pr_1 hql
            have p1 := Compare_ok c.1 (nth out q).1
            have p2 := Compare_ok c.2 (nth out q).2
            have hcm : cmpPr c (nth out q) = if compL c.1 (nth out q).1 ≠ 0 then compL c.1 (nth out q).1 else compL c.2 (nth out q).2 := rfl
            by_cases z1 : compL c.1 (nth out q).1 = 0
            case' pos =>
              rw [if_neg (by omega)] at hcm
              rw [z1] at p1
              repeat' (first | with_reducible refine inw ?_ | simp (maxSteps := 900000) (disch := omega) only [go_sem, Nat.reduceEqDiff, ↓reduceIte, reduceCtorEq, Nat.reduceAdd, Nat.reduceMul, Int.reduceToNat, List.reduceReplicate, Nat.reduceLeDiff, Nat.reduceLT, Int.reduceLT, Int.reduceLE, Int.reduceEq, x0, x1, zz0, zz2, eT, eTl, eDl, eS, eW, hif, hif2, if_true, true_or, or_true, and_true, Nat.sub_zero, Nat.zero_add, List.nil_append] | with_reducible refine pickB_t ?_ | (with_reducible apply call (p1)); (focus simp (maxSteps := 900000) (disch := omega) only [go_sem, Nat.reduceEqDiff, ↓reduceIte, reduceCtorEq, Nat.reduceAdd, Nat.reduceMul, Int.reduceToNat, List.reduceReplicate, Nat.reduceLeDiff, Nat.reduceLT, Int.reduceLT, Int.reduceLE, Int.reduceEq, x0, x1, zz0, zz2, eT, eTl, eDl, eS, eW, hif, hif2, if_true, true_or, or_true, and_true, Nat.sub_zero, Nat.zero_add, List.nil_append] <;> rfl) | (with_reducible apply call (p2)); (focus simp (maxSteps := 900000) (disch := omega) only [go_sem, Nat.reduceEqDiff, ↓reduceIte, reduceCtorEq, Nat.reduceAdd, Nat.reduceMul, Int.reduceToNat, List.reduceReplicate, Nat.reduceLeDiff, Nat.reduceLT, Int.reduceLT, Int.reduceLE, Int.reduceEq, x0, x1, zz0, zz2, eT, eTl, eDl, eS, eW, hif, hif2, if_true, true_or, or_true, and_true, Nat.sub_zero, Nat.zero_add, List.nil_append] <;> rfl) | with_reducible refine pickB_f ?_ | with_reducible refine giv_intro fun _h => ?_ | with_reducible refine alt_intro ?_ fun _h => ?_ | with_reducible refine pickD_nil ?_ | (with_reducible refine brc (fun _h => ?_) fun _h => ?_) <;> first | (exfalso; omega) | simp only [decide_eq_false _h] | simp only [(_h : (_ : Bool) = _)] | simp only [decide_eq_true _h] | skip)
            case' neg =>
              rw [if_pos z1] at hcm
              repeat' (first | with_reducible refine inw ?_ | simp (maxSteps := 900000) (disch := omega) only [go_sem, Nat.reduceEqDiff, ↓reduceIte, reduceCtorEq, Nat.reduceAdd, Nat.reduceMul, Int.reduceToNat, List.reduceReplicate, Nat.reduceLeDiff, Nat.reduceLT, Int.reduceLT, Int.reduceLE, Int.reduceEq, x0, x1, zz0, zz2, eT, eTl, eDl, eS, eW, hif, hif2, if_true, true_or, or_true, and_true, Nat.sub_zero, Nat.zero_add, List.nil_append] | with_reducible refine pickB_t ?_ | (with_reducible apply call (p1)); (focus simp (maxSteps := 900000) (disch := omega) only [go_sem, Nat.reduceEqDiff, ↓reduceIte, reduceCtorEq, Nat.reduceAdd, Nat.reduceMul, Int.reduceToNat, List.reduceReplicate, Nat.reduceLeDiff, Nat.reduceLT, Int.reduceLT, Int.reduceLE, Int.reduceEq, x0, x1, zz0, zz2, eT, eTl, eDl, eS, eW, hif, hif2, if_true, true_or, or_true, and_true, Nat.sub_zero, Nat.zero_add, List.nil_append] <;> rfl) | (with_reducible apply call (p2)); (focus simp (maxSteps := 900000) (disch := omega) only [go_sem, Nat.reduceEqDiff, ↓reduceIte, reduceCtorEq, Nat.reduceAdd, Nat.reduceMul, Int.reduceToNat, List.reduceReplicate, Nat.reduceLeDiff, Nat.reduceLT, Int.reduceLT, Int.reduceLE, Int.reduceEq, x0, x1, zz0, zz2, eT, eTl, eDl, eS, eW, hif, hif2, if_true, true_or, or_true, and_true, Nat.sub_zero, Nat.zero_add, List.nil_append] <;> rfl) | with_reducible refine pickB_f ?_ | with_reducible refine giv_intro fun _h => ?_ | with_reducible refine alt_intro ?_ fun _h => ?_ | with_reducible refine pickD_nil ?_ | (with_reducible refine brc (fun _h => ?_) fun _h => ?_) <;> first | (exfalso; omega) | simp only [decide_eq_false _h] | simp only [(_h : (_ : Bool) = _)] | simp only [decide_eq_true _h] | skip)
            all_goals first
              | (refine ⟨q + 1, ⟨by omega, by omega, fun r hr => ?_⟩, by omega⟩
                 rcases Nat.lt_or_ge r q with h | h
                 · exact hq2 r h
                 · obtain rfl : r = q := by omega
                   have := cmp_cmpPr.anti c (nth out r); omega)
              | (refine viewed_done ?_
                 simp (maxSteps := 900000) (disch := omega) only [go_sem, Nat.reduceEqDiff, ↓reduceIte, reduceCtorEq, Nat.reduceAdd, Nat.reduceMul, Int.reduceToNat, List.reduceReplicate, Nat.reduceLeDiff, Nat.reduceLT, Int.reduceLT, Int.reduceLE, Int.reduceEq]
                 refine ⟨n + 1, ⟨by omega, by omega⟩, ?_⟩
                 rw [ho2, hm2, insC_hit cmp_cmpPr hasc hql (cmp_cmpPr.zero.1 (by omega)).symm]
                 exact ⟨⟨⟨rfl, rfl⟩, rfl⟩, rfl⟩)
              | (have hgt : ∀ r, q ≤ r → r < out.length → cmpPr c (nth out r) < 0 := fun r h1 h2 => by
                   rcases Nat.lt_or_ge q r with h | h
                   · exact cmp_cmpPr.trans (show cmpPr c (nth out q) < 0 by omega) (asc_nthC hasc h h2)
                   · obtain rfl : q = r := by omega
                     omega
                 have hmi := insC_miss cmp_cmpPr hasc hq1 hq2 hgt
                 have hmi2 : out.take q ++ [c] ++ out.drop q = out2 := by rw [hm2, hmi, List.append_assoc]; rfl
                 have hln : (out.take q ++ [c]).length = q + 1 := by rw [List.length_append, eTl]; rfl
                 have hl2 : out2.length = out.length + 1 := by rw [← hmi2, List.length_append, hln, eDl]; omega
                 have hA : cellsL (out.take q) ++ [sl c.1, sl c.2] = cellsL (out.take q ++ [c]) := by rw [← cellsL_app]; rfl
                 have hR : ∀ R, rowAt (some (.row 47 2 (cellsL (out.take q ++ [c]))) :: R) 0 ((q + 1) * 2) = some (47, 2, cellsL (out.take q ++ [c])) := fun R => by rw [rowAt_zero, if_pos (by rw [cellsL_len, hln])]
                 repeat' (first | with_reducible refine inw ?_ | simp (maxSteps := 900000) (disch := omega) only [go_sem, Nat.reduceEqDiff, ↓reduceIte, reduceCtorEq, Nat.reduceAdd, Nat.reduceMul, Int.reduceToNat, List.reduceReplicate, Nat.reduceLeDiff, Nat.reduceLT, Int.reduceLT, Int.reduceLE, Int.reduceEq, hA, hR, hmi2, zz0, zz2, eT, eTl, eDl, eS, eW, hif, hif2, if_true, true_or, or_true, and_true, Nat.sub_zero, Nat.zero_add, List.nil_append] | with_reducible refine pickB_f ?_ | with_reducible refine giv_intro fun _h => ?_ | with_reducible refine alt_intro ?_ fun _h => ?_ | with_reducible refine pickD_nil ?_ | (with_reducible refine brc (fun _h => ?_) fun _h => ?_) <;> first | (exfalso; omega) | simp only [decide_eq_false _h] | simp only [(_h : (_ : Bool) = _)] | simp only [decide_eq_true _h] | skip)
                 have n2 : ¬ S.n + 2 < S.n := by omega
                 have n5 : ¬ S.n + 5 < S.n := by omega
                 refine viewed_of (View.move (i := 8) (a := S.nm 2) (a' := S.nm 5) (e := 47) (k := 2) (tot := (out.length + 1) * 2) (m := out.length + 1) (cs := cellsL out) (cs' := cellsL out2) (by simp (maxSteps := 900000) (disch := omega) only [go_sem, Nat.reduceEqDiff, ↓reduceIte, reduceCtorEq, Nat.reduceAdd, Nat.reduceMul, Int.reduceToNat, List.reduceReplicate, Nat.reduceLeDiff, Nat.reduceLT, Int.reduceLT, Int.reduceLE, Int.reduceEq]) (by simp [St.stk, St.nm, n2]) (by simp [St.stk, St.nm, n5]) (by rw [cellsL_len, cellsL_len, hl2]; omega) (by simp [St.nm])) (viewed_done ?_)
                 simp (maxSteps := 900000) (disch := omega) only [go_sem, Nat.reduceEqDiff, ↓reduceIte, reduceCtorEq, Nat.reduceAdd, Nat.reduceMul, Int.reduceToNat, List.reduceReplicate, Nat.reduceLeDiff, Nat.reduceLT, Int.reduceLT, Int.reduceLE, Int.reduceEq]
                 refine ⟨n + 1, ⟨by omega, by omega⟩, ?_⟩
                 rw [ho2, hl2]
                 exact ⟨⟨⟨rfl, rfl⟩, rfl⟩, rfl⟩)
          · obtain rfl : q = out.length := by omega
            repeat' (first | with_reducible refine inw ?_ | simp (maxSteps := 900000) (disch := omega) only [go_sem, Nat.reduceEqDiff, ↓reduceIte, reduceCtorEq, Nat.reduceAdd, Nat.reduceMul, Int.reduceToNat, List.reduceReplicate, Nat.reduceLeDiff, Nat.reduceLT, Int.reduceLT, Int.reduceLE, Int.reduceEq, zz0, zz2, eT, eTl, eDl, eS, eW, hif, hif2, if_true, true_or, or_true, and_true, Nat.sub_zero, Nat.zero_add, List.nil_append] | with_reducible refine pickB_f ?_ | with_reducible refine giv_intro fun _h => ?_ | with_reducible refine alt_intro ?_ fun _h => ?_ | with_reducible refine pickD_nil ?_ | (with_reducible refine brc (fun _h => ?_) fun _h => ?_) <;> first | (exfalso; omega) | simp only [decide_eq_false _h] | simp only [(_h : (_ : Bool) = _)] | simp only [decide_eq_true _h] | skip)
            have hmi := insC_miss cmp_cmpPr hasc (Nat.le_refl _) hq2 (fun r h1 h2 => absurd h2 (by omega))
            rw [List.take_length, List.drop_length] at hmi
            refine viewed_done ?_
            simp (maxSteps := 900000) (disch := omega) only [go_sem, Nat.reduceEqDiff, ↓reduceIte, reduceCtorEq, Nat.reduceAdd, Nat.reduceMul, Int.reduceToNat, List.reduceReplicate, Nat.reduceLeDiff, Nat.reduceLT, Int.reduceLT, Int.reduceLE, Int.reduceEq]
            refine ⟨n + 1, ⟨by omega, by omega⟩, ?_⟩
            have hl2 : out2.length = out.length + 1 := by rw [hm2, hmi, List.length_append, List.length_singleton]
            rw [ho2, hl2]
            refine ⟨⟨⟨rfl, rfl⟩, rfl⟩, ?_⟩
            rw [hm2, hmi, ← cellsL_app]; rfl
      · rw [decide_eq_false hs] at s1
        have hm2 := hom (by simp [fitsPr, hs])
        repeat' (first | with_reducible refine inw ?_ | simp (maxSteps := 900000) (disch := omega) only [go_sem, Nat.reduceEqDiff, ↓reduceIte, reduceCtorEq, Nat.reduceAdd, Nat.reduceMul, Int.reduceToNat, List.reduceReplicate, Nat.reduceLeDiff, Nat.reduceLT, Int.reduceLT, Int.reduceLE, Int.reduceEq, f1, f2] | with_reducible refine pickB_t ?_ | (with_reducible apply call_D (s1)); (focus simp (maxSteps := 900000) (disch := omega) only [go_sem, Nat.reduceEqDiff, ↓reduceIte, reduceCtorEq, Nat.reduceAdd, Nat.reduceMul, Int.reduceToNat, List.reduceReplicate, Nat.reduceLeDiff, Nat.reduceLT, Int.reduceLT, Int.reduceLE, Int.reduceEq, f1, f2] <;> rfl) | (with_reducible apply call (s1)); (focus simp (maxSteps := 900000) (disch := omega) only [go_sem, Nat.reduceEqDiff, ↓reduceIte, reduceCtorEq, Nat.reduceAdd, Nat.reduceMul, Int.reduceToNat, List.reduceReplicate, Nat.reduceLeDiff, Nat.reduceLT, Int.reduceLT, Int.reduceLE, Int.reduceEq, f1, f2] <;> rfl) | with_reducible refine pickB_f ?_ | with_reducible refine giv_intro fun _h => ?_ | with_reducible refine alt_intro ?_ fun _h => ?_ | with_reducible refine pickD_nil ?_ | (with_reducible refine brc (fun _h => ?_) fun _h => ?_) <;> first | (exfalso; omega) | simp only [decide_eq_false _h] | simp only [(_h : (_ : Bool) = _)] | simp only [decide_eq_true _h] | skip)
        refine viewed_done ?_
        simp (maxSteps := 900000) (disch := omega) only [go_sem, Nat.reduceEqDiff, ↓reduceIte, reduceCtorEq, Nat.reduceAdd, Nat.reduceMul, Int.reduceToNat, List.reduceReplicate, Nat.reduceLeDiff, Nat.reduceLT, Int.reduceLT, Int.reduceLE, Int.reduceEq]
        refine ⟨n + 1, ⟨by omega, by omega⟩, ?_⟩
        rw [hm2]
        exact ⟨⟨⟨rfl, rfl⟩, rfl⟩, rfl⟩
    · have he := hoe hil hn (by omega)
      rw [he]
      repeat' (first | with_reducible refine inw ?_ | simp (maxSteps := 900000) (disch := omega) only [go_sem, Nat.reduceEqDiff, ↓reduceIte, reduceCtorEq, Nat.reduceAdd, Nat.reduceMul, Int.reduceToNat, List.reduceReplicate, Nat.reduceLeDiff, Nat.reduceLT, Int.reduceLT, Int.reduceLE, Int.reduceEq] | with_reducible refine pickB_f ?_ | with_reducible refine giv_intro fun _h => ?_ | with_reducible refine alt_intro ?_ fun _h => ?_ | with_reducible refine pickD_nil ?_ | (with_reducible refine brc (fun _h => ?_) fun _h => ?_) <;> first | (exfalso; omega) | simp only [decide_eq_false _h] | simp only [(_h : (_ : Bool) = _)] | simp only [decide_eq_true _h] | skip)
      exact ⟨i + 1, ⟨by omega, by omega⟩, ⟨⟨rfl, rfl⟩, rfl⟩, rfl⟩
  · obtain rfl : i = (l ++ [zJ]).length := by omega
    rw [outI_end]
    repeat' (first | with_reducible refine inw ?_ | simp (maxSteps := 900000) (disch := omega) only [go_sem, Nat.reduceEqDiff, ↓reduceIte, reduceCtorEq, Nat.reduceAdd, Nat.reduceMul, Int.reduceToNat, List.reduceReplicate, Nat.reduceLeDiff, Nat.reduceLT, Int.reduceLT, Int.reduceLE, Int.reduceEq] | with_reducible refine pickB_f ?_ | with_reducible refine giv_intro fun _h => ?_ | with_reducible refine alt_intro ?_ fun _h => ?_ | with_reducible refine pickD_nil ?_ | (with_reducible refine brc (fun _h => ?_) fun _h => ?_) <;> first | (exfalso; omega) | simp only [decide_eq_false _h] | simp only [(_h : (_ : Bool) = _)] | simp only [decide_eq_true _h] | skip)
end Go.Proofs.Ytpfoflhhbkjngaa.Ev

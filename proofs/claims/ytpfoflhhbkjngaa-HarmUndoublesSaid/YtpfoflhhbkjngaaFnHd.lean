/- Syllables of a word, by the program and by the reference; the laws HarmSyllables and HarmCuts. -/
import Derived.Test.YtpfoflhhbkjngaaFnHc
import Derived.Test.YtpfoflhhbkjngaaFnW
set_option linter.unusedVariables false
set_option linter.unusedSimpArgs false
namespace Go.Proofs.Ytpfoflhhbkjngaa.Ev
open Go Go.Proofs

def sylE (l : List Sound) (w : List Str) : Int := firstE [sndErr l, wordsErr [w]]
def sylV (l : List Sound) (w : List Str) : List (List Str) := if sylE l w = 0 then sylL (vowR l) (louR l) w else []
theorem two_zero {a b : Int} (h : firstE [a, b] = 0) : a = 0 ∧ b = 0 := by
  rw [firstTwo] at h
  split at h
  · rename_i h1; exact absurd h h1
  · rename_i h1; exact ⟨by omega, h⟩
theorem wordsErr_one {w : List Str} (h : wordsErr [w] = 0) : wordErr w = 0 := by
  simp only [wordsErr] at h
  split at h
  · rename_i h1; exact absurd h h1
  · rename_i h1; omega
/-- ablaut/harm.Syllables: 2 parameters, 0 captured -/
def s26 : SC := .seq (.reg [⟨(some 2), .box 37 1 (.t 0), none⟩,
     ⟨(some 4), .mv (.c (.slice none 0 0)), none⟩,
     ⟨(some 5), .mv (.c (.int .i64 0)), none⟩])
  (.seq (.seq (.reg [⟨(some 7), .load (some 1) (.t 2), none⟩,
       ⟨(some 8), .call (.f 51) [(.t 7)], none⟩,
       ⟨(some 9), .mv (.t 1), none⟩,
       ⟨(some 10), .buildSl 22 1 1 [(.slice none 0 0)] [(0, 1, (.t 9))], none⟩,
       ⟨(some 11), .call (.f 53) [(.t 10)], none⟩,
       ⟨(some 12), .buildSl 25 1 2 [(.int .i64 0)] [(0, 1, (.t 8)), (1, 1, (.t 11))], none⟩,
       ⟨(some 13), .call (.f 62) [(.t 12)], none⟩,
       ⟨(some 6), .mv (.t 13), none⟩])
    (.seq (.reg [⟨(some 14), .mv (.t 6), none⟩,
        ⟨(some 15), .bin .neq (.t 14) (.c (.int .i64 0)), none⟩])
     (.cond (.t 15) (.seq (.reg [⟨(some 16), .mv (.t 6), none⟩,
          ⟨(some 4), .mv (.c (.slice none 0 0)), none⟩,
          ⟨(some 5), .mv (.t 16), none⟩])
       (.ret)) (.skip))))
   (.seq (.reg [⟨(some 17), .load (some 1) (.t 2), none⟩,
       ⟨(some 18), .call (.f 63) [(.t 17)], none⟩,
       ⟨(some 19), .mv (.t 1), none⟩,
       ⟨(some 20), .call (.f 64) [(.t 18), (.t 19)], none⟩,
       ⟨(some 4), .mv (.t 20), none⟩,
       ⟨(some 5), .mv (.c (.int .i64 0)), none⟩])
    (.ret)))
theorem s26_ok : lookF Try.prog 26 = some (s26, 21, [.tmp 4, .tmp 5]) := by kernel_rfl
theorem hSyllables_ok (l : List Sound) (w : List Str) : Fn P 26 [sndA l, sl w] (.tup [sl (sylV l w), intA (sylE l w)]) := by
  have c1 := hValidate_ok l
  have c2 := words_ok [w]
  have c3 := first_ok [sndErr l, wordsErr [w]]
  by_cases h : sylE l w = 0
  · have h1 := two_zero h
    have h2 := wordErr_len (wordsErr_one h1.2)
    have c4 := split_ok (ofM l) w (by omega)
    rw [vowM_of h1.1, louM_of h1.1] at c4
    rw [sylV, if_pos h, h]
    rw [show firstE [sndErr l, wordsErr [w]] = 0 from h] at c3
    (refine fn_look s26_ok (by simp) (by intro k; simp only [go_sem, Nat.reduceEqDiff, ↓reduceIte, reduceCtorEq, Nat.reduceAdd, Nat.reduceMul, Int.reduceToNat, List.reduceReplicate, Nat.reduceLeDiff, Nat.reduceLT, Int.reduceLT, Int.reduceLE, Int.reduceEq]) fun S hS => cwp_sound _ _ _ _ ?_; simp (disch := omega) only [s26, go_sem, Nat.reduceEqDiff, ↓reduceIte, reduceCtorEq, Nat.reduceAdd, Nat.reduceMul, Int.reduceToNat, List.reduceReplicate, Nat.reduceLeDiff, Nat.reduceLT, Int.reduceLT, Int.reduceLE, Int.reduceEq])
    repeat' (first | (with_reducible refine in_seq ?_) | (with_reducible refine in_reg ?_) | (with_reducible refine in_block ?_) | (with_reducible refine in_cond ?_) | (with_reducible refine in_ret ?_) | (with_reducible refine in_skip ?_) | (simp (disch := omega) only [go_sem, Nat.reduceEqDiff, ↓reduceIte, reduceCtorEq, Nat.reduceAdd, Nat.reduceMul, Int.reduceToNat, List.reduceReplicate, Nat.reduceLeDiff, Nat.reduceLT, Int.reduceLT, Int.reduceLE, Int.reduceEq]) | (with_reducible refine giv_intro fun _h => ?_) | (with_reducible refine alt_intro ?_ (fun _h => ?_)) | ((first | with_reducible refine br_dec (fun _h => ?_) (fun _h => ?_) | with_reducible refine br_ndec (fun _h => ?_) (fun _h => ?_)) <;> (first | (exfalso; omega) | simp only [decide_eq_false _h] | simp only [decide_eq_true _h] | skip)) | ((first | with_reducible refine br_not (fun _h => ?_) (fun _h => ?_) | with_reducible refine br_var (fun _h => ?_) (fun _h => ?_)) <;> (try simp only [_h])) | ((with_reducible apply call (c1)); (focus (simp (disch := omega) only [go_sem, Nat.reduceEqDiff, ↓reduceIte, reduceCtorEq, Nat.reduceAdd, Nat.reduceMul, Int.reduceToNat, List.reduceReplicate, Nat.reduceLeDiff, Nat.reduceLT, Int.reduceLT, Int.reduceLE, Int.reduceEq]; (try rfl); done))) | ((with_reducible apply call_lend (c2)); (focus (simp (disch := omega) only [go_sem, Nat.reduceEqDiff, ↓reduceIte, reduceCtorEq, Nat.reduceAdd, Nat.reduceMul, Int.reduceToNat, List.reduceReplicate, Nat.reduceLeDiff, Nat.reduceLT, Int.reduceLT, Int.reduceLE, Int.reduceEq]; (try rfl); done)); (focus rfl)) | ((with_reducible apply call_lend (c3)); (focus (simp (disch := omega) only [go_sem, Nat.reduceEqDiff, ↓reduceIte, reduceCtorEq, Nat.reduceAdd, Nat.reduceMul, Int.reduceToNat, List.reduceReplicate, Nat.reduceLeDiff, Nat.reduceLT, Int.reduceLT, Int.reduceLE, Int.reduceEq]; (try rfl); done)); (focus rfl)) | ((with_reducible apply call (of_ok l)); (focus (simp (disch := omega) only [go_sem, Nat.reduceEqDiff, ↓reduceIte, reduceCtorEq, Nat.reduceAdd, Nat.reduceMul, Int.reduceToNat, List.reduceReplicate, Nat.reduceLeDiff, Nat.reduceLT, Int.reduceLT, Int.reduceLE, Int.reduceEq]; (try rfl); done))) | ((with_reducible apply call (c4)); (focus (simp (disch := omega) only [go_sem, Nat.reduceEqDiff, ↓reduceIte, reduceCtorEq, Nat.reduceAdd, Nat.reduceMul, Int.reduceToNat, List.reduceReplicate, Nat.reduceLeDiff, Nat.reduceLT, Int.reduceLT, Int.reduceLE, Int.reduceEq]; (try rfl); done))) | fail)
  · rw [sylV, if_neg h]
    rw [show firstE [sndErr l, wordsErr [w]] = sylE l w from rfl] at c3
    (refine fn_look s26_ok (by simp) (by intro k; simp only [go_sem, Nat.reduceEqDiff, ↓reduceIte, reduceCtorEq, Nat.reduceAdd, Nat.reduceMul, Int.reduceToNat, List.reduceReplicate, Nat.reduceLeDiff, Nat.reduceLT, Int.reduceLT, Int.reduceLE, Int.reduceEq]) fun S hS => cwp_sound _ _ _ _ ?_; simp (disch := omega) only [s26, go_sem, Nat.reduceEqDiff, ↓reduceIte, reduceCtorEq, Nat.reduceAdd, Nat.reduceMul, Int.reduceToNat, List.reduceReplicate, Nat.reduceLeDiff, Nat.reduceLT, Int.reduceLT, Int.reduceLE, Int.reduceEq])
    repeat' (first | (with_reducible refine in_seq ?_) | (with_reducible refine in_reg ?_) | (with_reducible refine in_block ?_) | (with_reducible refine in_cond ?_) | (with_reducible refine in_ret ?_) | (with_reducible refine in_skip ?_) | (simp (disch := omega) only [go_sem, Nat.reduceEqDiff, ↓reduceIte, reduceCtorEq, Nat.reduceAdd, Nat.reduceMul, Int.reduceToNat, List.reduceReplicate, Nat.reduceLeDiff, Nat.reduceLT, Int.reduceLT, Int.reduceLE, Int.reduceEq]) | (with_reducible refine giv_intro fun _h => ?_) | (with_reducible refine alt_intro ?_ (fun _h => ?_)) | ((first | with_reducible refine br_dec (fun _h => ?_) (fun _h => ?_) | with_reducible refine br_ndec (fun _h => ?_) (fun _h => ?_)) <;> (first | (exfalso; omega) | simp only [decide_eq_false _h] | simp only [decide_eq_true _h] | skip)) | ((first | with_reducible refine br_not (fun _h => ?_) (fun _h => ?_) | with_reducible refine br_var (fun _h => ?_) (fun _h => ?_)) <;> (try simp only [_h])) | ((with_reducible apply call (c1)); (focus (simp (disch := omega) only [go_sem, Nat.reduceEqDiff, ↓reduceIte, reduceCtorEq, Nat.reduceAdd, Nat.reduceMul, Int.reduceToNat, List.reduceReplicate, Nat.reduceLeDiff, Nat.reduceLT, Int.reduceLT, Int.reduceLE, Int.reduceEq]; (try rfl); done))) | ((with_reducible apply call_lend (c2)); (focus (simp (disch := omega) only [go_sem, Nat.reduceEqDiff, ↓reduceIte, reduceCtorEq, Nat.reduceAdd, Nat.reduceMul, Int.reduceToNat, List.reduceReplicate, Nat.reduceLeDiff, Nat.reduceLT, Int.reduceLT, Int.reduceLE, Int.reduceEq]; (try rfl); done)); (focus rfl)) | ((with_reducible apply call_lend (c3)); (focus (simp (disch := omega) only [go_sem, Nat.reduceEqDiff, ↓reduceIte, reduceCtorEq, Nat.reduceAdd, Nat.reduceMul, Int.reduceToNat, List.reduceReplicate, Nat.reduceLeDiff, Nat.reduceLT, Int.reduceLT, Int.reduceLE, Int.reduceEq]; (try rfl); done)); (focus rfl)) | ((with_reducible apply call (of_ok l)); (focus (simp (disch := omega) only [go_sem, Nat.reduceEqDiff, ↓reduceIte, reduceCtorEq, Nat.reduceAdd, Nat.reduceMul, Int.reduceToNat, List.reduceReplicate, Nat.reduceLeDiff, Nat.reduceLT, Int.reduceLT, Int.reduceLE, Int.reduceEq]; (try rfl); done))) | fail)
    rfl
/-- ablaut/ablautref13.Syllables: 2 parameters, 0 captured -/
def s27 : SC := .seq (.reg [⟨(some 2), .box 37 1 (.t 0), none⟩,
     ⟨(some 4), .mv (.c (.slice none 0 0)), none⟩,
     ⟨(some 5), .mv (.c (.int .i64 0)), none⟩])
  (.seq (.seq (.reg [⟨(some 7), .load (some 1) (.t 2), none⟩,
       ⟨(some 8), .mv (.t 1), none⟩,
       ⟨(some 9), .buildSl 22 1 1 [(.slice none 0 0)] [(0, 1, (.t 8))], none⟩,
       ⟨(some 10), .call (.f 65) [(.t 7), (.t 9)], none⟩,
       ⟨(some 6), .mv (.t 10), none⟩])
    (.seq (.reg [⟨(some 11), .mv (.t 6), none⟩,
        ⟨(some 12), .bin .neq (.t 11) (.c (.int .i64 0)), none⟩])
     (.cond (.t 12) (.seq (.reg [⟨(some 13), .mv (.t 6), none⟩,
          ⟨(some 4), .mv (.c (.slice none 0 0)), none⟩,
          ⟨(some 5), .mv (.t 13), none⟩])
       (.ret)) (.skip))))
   (.seq (.reg [⟨(some 14), .load (some 1) (.t 2), none⟩,
       ⟨(some 15), .mv (.t 1), none⟩,
       ⟨(some 16), .call (.f 66) [(.t 14), (.t 15)], none⟩,
       ⟨(some 4), .mv (.t 16), none⟩,
       ⟨(some 5), .mv (.c (.int .i64 0)), none⟩])
    (.ret)))
theorem s27_ok : lookF Try.prog 27 = some (s27, 17, [.tmp 4, .tmp 5]) := by kernel_rfl
theorem rSyllablesT_ok (l : List Sound) (w : List Str) : Fn P 27 [sndA l, sl w] (.tup [sl (sylV l w), intA (sylE l w)]) := by
  have c1 := rAsked_ok l [w]
  by_cases h : sylE l w = 0
  · have h1 := two_zero h
    have h2 := wordErr_len (wordsErr_one h1.2)
    have c4 := rSyllables_ok l w (by omega)
    rw [sylV, if_pos h, h]
    rw [show firstE [sndErr l, wordsErr [w]] = 0 from h] at c1
    (refine fn_look s27_ok (by simp) (by intro k; simp only [go_sem, Nat.reduceEqDiff, ↓reduceIte, reduceCtorEq, Nat.reduceAdd, Nat.reduceMul, Int.reduceToNat, List.reduceReplicate, Nat.reduceLeDiff, Nat.reduceLT, Int.reduceLT, Int.reduceLE, Int.reduceEq]) fun S hS => cwp_sound _ _ _ _ ?_; simp (disch := omega) only [s27, go_sem, Nat.reduceEqDiff, ↓reduceIte, reduceCtorEq, Nat.reduceAdd, Nat.reduceMul, Int.reduceToNat, List.reduceReplicate, Nat.reduceLeDiff, Nat.reduceLT, Int.reduceLT, Int.reduceLE, Int.reduceEq])
    repeat' (first | (with_reducible refine in_seq ?_) | (with_reducible refine in_reg ?_) | (with_reducible refine in_block ?_) | (with_reducible refine in_cond ?_) | (with_reducible refine in_ret ?_) | (with_reducible refine in_skip ?_) | (simp (disch := omega) only [go_sem, Nat.reduceEqDiff, ↓reduceIte, reduceCtorEq, Nat.reduceAdd, Nat.reduceMul, Int.reduceToNat, List.reduceReplicate, Nat.reduceLeDiff, Nat.reduceLT, Int.reduceLT, Int.reduceLE, Int.reduceEq]) | (with_reducible refine giv_intro fun _h => ?_) | (with_reducible refine alt_intro ?_ (fun _h => ?_)) | ((first | with_reducible refine br_dec (fun _h => ?_) (fun _h => ?_) | with_reducible refine br_ndec (fun _h => ?_) (fun _h => ?_)) <;> (first | (exfalso; omega) | simp only [decide_eq_false _h] | simp only [decide_eq_true _h] | skip)) | ((first | with_reducible refine br_not (fun _h => ?_) (fun _h => ?_) | with_reducible refine br_var (fun _h => ?_) (fun _h => ?_)) <;> (try simp only [_h])) | ((with_reducible apply call_lend (c1)); (focus (simp (disch := omega) only [go_sem, Nat.reduceEqDiff, ↓reduceIte, reduceCtorEq, Nat.reduceAdd, Nat.reduceMul, Int.reduceToNat, List.reduceReplicate, Nat.reduceLeDiff, Nat.reduceLT, Int.reduceLT, Int.reduceLE, Int.reduceEq]; (try rfl); done)); (focus rfl)) | ((with_reducible apply call (c4)); (focus (simp (disch := omega) only [go_sem, Nat.reduceEqDiff, ↓reduceIte, reduceCtorEq, Nat.reduceAdd, Nat.reduceMul, Int.reduceToNat, List.reduceReplicate, Nat.reduceLeDiff, Nat.reduceLT, Int.reduceLT, Int.reduceLE, Int.reduceEq]; (try rfl); done))) | fail)
  · rw [sylV, if_neg h]
    rw [show firstE [sndErr l, wordsErr [w]] = sylE l w from rfl] at c1
    (refine fn_look s27_ok (by simp) (by intro k; simp only [go_sem, Nat.reduceEqDiff, ↓reduceIte, reduceCtorEq, Nat.reduceAdd, Nat.reduceMul, Int.reduceToNat, List.reduceReplicate, Nat.reduceLeDiff, Nat.reduceLT, Int.reduceLT, Int.reduceLE, Int.reduceEq]) fun S hS => cwp_sound _ _ _ _ ?_; simp (disch := omega) only [s27, go_sem, Nat.reduceEqDiff, ↓reduceIte, reduceCtorEq, Nat.reduceAdd, Nat.reduceMul, Int.reduceToNat, List.reduceReplicate, Nat.reduceLeDiff, Nat.reduceLT, Int.reduceLT, Int.reduceLE, Int.reduceEq])
    repeat' (first | (with_reducible refine in_seq ?_) | (with_reducible refine in_reg ?_) | (with_reducible refine in_block ?_) | (with_reducible refine in_cond ?_) | (with_reducible refine in_ret ?_) | (with_reducible refine in_skip ?_) | (simp (disch := omega) only [go_sem, Nat.reduceEqDiff, ↓reduceIte, reduceCtorEq, Nat.reduceAdd, Nat.reduceMul, Int.reduceToNat, List.reduceReplicate, Nat.reduceLeDiff, Nat.reduceLT, Int.reduceLT, Int.reduceLE, Int.reduceEq]) | (with_reducible refine giv_intro fun _h => ?_) | (with_reducible refine alt_intro ?_ (fun _h => ?_)) | ((first | with_reducible refine br_dec (fun _h => ?_) (fun _h => ?_) | with_reducible refine br_ndec (fun _h => ?_) (fun _h => ?_)) <;> (first | (exfalso; omega) | simp only [decide_eq_false _h] | simp only [decide_eq_true _h] | skip)) | ((first | with_reducible refine br_not (fun _h => ?_) (fun _h => ?_) | with_reducible refine br_var (fun _h => ?_) (fun _h => ?_)) <;> (try simp only [_h])) | ((with_reducible apply call_lend (c1)); (focus (simp (disch := omega) only [go_sem, Nat.reduceEqDiff, ↓reduceIte, reduceCtorEq, Nat.reduceAdd, Nat.reduceMul, Int.reduceToNat, List.reduceReplicate, Nat.reduceLeDiff, Nat.reduceLT, Int.reduceLT, Int.reduceLE, Int.reduceEq]; (try rfl); done)); (focus rfl)) | fail)
    rfl
/-- ablaut/ablautlaw13.HarmSyllables: 2 parameters, 0 captured -/
def s5 : SC := .seq (.reg [⟨(some 2), .box 37 1 (.t 0), none⟩,
     ⟨(some 4), .mv (.c (.bool false)), none⟩])
  (.seq (.seq (.reg [⟨(some 9), .load (some 1) (.t 2), none⟩,
       ⟨(some 10), .call (.f 25) [(.t 9)], none⟩,
       ⟨(some 11), .mv (.t 10), none⟩,
       ⟨(some 12), .mv (.t 1), some (11, false)⟩,
       ⟨(some 13), .buildSl 22 1 1 [(.slice none 0 0)] [(0, 1, (.t 12))], some (11, false)⟩,
       ⟨(some 14), .call (.f 16) [(.t 13)], some (11, false)⟩,
       ⟨(some 15), .bin .gtr (.t 14) (.c (.int .i64 32000)), some (11, false)⟩,
       ⟨(some 16), .pick (.t 11) (.c (.bool true)) (.t 15), none⟩])
    (.cond (.t 16) (.seq (.reg [⟨(some 17), .call (.f 17) [], none⟩,
         ⟨(some 4), .mv (.t 17), none⟩])
      (.ret)) (.skip)))
   (.seq (.reg [⟨(some 19), .load (some 1) (.t 2), none⟩,
       ⟨(some 20), .mv (.t 1), none⟩,
       ⟨(some 21), .call (.f 26) [(.t 19), (.t 20)], none⟩,
       ⟨(some 18), .mv (.t 21), none⟩,
       ⟨(some 22), .ext (.t 18) 0, none⟩,
       ⟨(some 23), .ext (.t 18) 1, none⟩,
       ⟨(some 5), .mv (.t 22), none⟩,
       ⟨(some 6), .mv (.t 23), none⟩])
    (.seq (.reg [⟨(some 25), .load (some 1) (.t 2), none⟩,
        ⟨(some 26), .mv (.t 1), none⟩,
        ⟨(some 27), .call (.f 27) [(.t 25), (.t 26)], none⟩,
        ⟨(some 24), .mv (.t 27), none⟩,
        ⟨(some 28), .ext (.t 24) 0, none⟩,
        ⟨(some 29), .ext (.t 24) 1, none⟩,
        ⟨(some 7), .mv (.t 28), none⟩,
        ⟨(some 8), .mv (.t 29), none⟩])
     (.seq (.reg [⟨(some 30), .mv (.t 5), none⟩,
         ⟨(some 31), .mv (.t 7), none⟩,
         ⟨(some 32), .call (.f 23) [(.t 30), (.t 31)], none⟩,
         ⟨(some 33), .mv (.t 32), none⟩,
         ⟨(some 34), .mv (.t 6), some (33, true)⟩,
         ⟨(some 35), .mv (.t 8), some (33, true)⟩,
         ⟨(some 36), .bin .eql (.t 34) (.t 35), some (33, true)⟩,
         ⟨(some 37), .pick (.t 33) (.t 36) (.c (.bool false)), none⟩,
         ⟨(some 38), .mv (.t 37), none⟩,
         ⟨(some 39), .call (.f 17) [], some (38, true)⟩,
         ⟨(some 40), .pick (.t 38) (.t 39) (.c (.bool false)), none⟩,
         ⟨(some 4), .mv (.t 40), none⟩])
      (.ret)))))
theorem s5_ok : lookF Try.prog 5 = some (s5, 41, [.tmp 4]) := by kernel_rfl
theorem HarmSyllables_ok (l : List Sound) (w : List Str) : Fn P 5 [sndA l, sl w] (boolA true) := by
  (refine fn_look s5_ok (by simp) (by intro k; simp only [go_sem, Nat.reduceEqDiff, ↓reduceIte, reduceCtorEq, Nat.reduceAdd, Nat.reduceMul, Int.reduceToNat, List.reduceReplicate, Nat.reduceLeDiff, Nat.reduceLT, Int.reduceLT, Int.reduceLE, Int.reduceEq]) fun S hS => cwp_sound _ _ _ _ ?_; simp (disch := omega) only [s5, go_sem, Nat.reduceEqDiff, ↓reduceIte, reduceCtorEq, Nat.reduceAdd, Nat.reduceMul, Int.reduceToNat, List.reduceReplicate, Nat.reduceLeDiff, Nat.reduceLT, Int.reduceLT, Int.reduceLE, Int.reduceEq])
  repeat' (first | (with_reducible refine in_seq ?_) | (with_reducible refine in_reg ?_) | (with_reducible refine in_block ?_) | (with_reducible refine in_cond ?_) | (with_reducible refine in_ret ?_) | (with_reducible refine in_skip ?_) | (simp (disch := omega) only [go_sem, Nat.reduceEqDiff, ↓reduceIte, reduceCtorEq, Nat.reduceAdd, Nat.reduceMul, Int.reduceToNat, List.reduceReplicate, Nat.reduceLeDiff, Nat.reduceLT, Int.reduceLT, Int.reduceLE, Int.reduceEq]) | (with_reducible refine giv_intro fun _h => ?_) | (with_reducible refine alt_intro ?_ (fun _h => ?_)) | ((first | with_reducible refine br_dec (fun _h => ?_) (fun _h => ?_) | with_reducible refine br_ndec (fun _h => ?_) (fun _h => ?_)) <;> (first | (exfalso; omega) | simp only [decide_eq_false _h] | simp only [decide_eq_true _h] | skip)) | ((first | with_reducible refine br_not (fun _h => ?_) (fun _h => ?_) | with_reducible refine br_var (fun _h => ?_) (fun _h => ?_)) <;> (try simp only [_h])) | ((with_reducible apply call (known_ok)); (focus (simp (disch := omega) only [go_sem, Nat.reduceEqDiff, ↓reduceIte, reduceCtorEq, Nat.reduceAdd, Nat.reduceMul, Int.reduceToNat, List.reduceReplicate, Nat.reduceLeDiff, Nat.reduceLT, Int.reduceLT, Int.reduceLE, Int.reduceEq]; (try rfl); done))) | ((with_reducible apply callR (over_ok l)); (focus (simp (disch := omega) only [go_sem, Nat.reduceEqDiff, ↓reduceIte, reduceCtorEq, Nat.reduceAdd, Nat.reduceMul, Int.reduceToNat, List.reduceReplicate, Nat.reduceLeDiff, Nat.reduceLT, Int.reduceLT, Int.reduceLE, Int.reduceEq]; (try rfl); done)); (rintro _ ⟨_, rfl⟩)) | ((with_reducible apply callR_lend (bytes_ok [w] (by simp))); (focus (simp (disch := omega) only [go_sem, Nat.reduceEqDiff, ↓reduceIte, reduceCtorEq, Nat.reduceAdd, Nat.reduceMul, Int.reduceToNat, List.reduceReplicate, Nat.reduceLeDiff, Nat.reduceLT, Int.reduceLT, Int.reduceLE, Int.reduceEq]; (try rfl); done)); (focus (rintro _ ⟨_, rfl⟩; rfl)); (rintro _ ⟨_, rfl⟩)) | ((with_reducible apply call (hSyllables_ok l w)); (focus (simp (disch := omega) only [go_sem, Nat.reduceEqDiff, ↓reduceIte, reduceCtorEq, Nat.reduceAdd, Nat.reduceMul, Int.reduceToNat, List.reduceReplicate, Nat.reduceLeDiff, Nat.reduceLT, Int.reduceLT, Int.reduceLE, Int.reduceEq]; (try rfl); done))) | ((with_reducible apply call (rSyllablesT_ok l w)); (focus (simp (disch := omega) only [go_sem, Nat.reduceEqDiff, ↓reduceIte, reduceCtorEq, Nat.reduceAdd, Nat.reduceMul, Int.reduceToNat, List.reduceReplicate, Nat.reduceLeDiff, Nat.reduceLT, Int.reduceLT, Int.reduceLE, Int.reduceEq]; (try rfl); done))) | ((with_reducible apply call (SameWords_ok _ _)); (focus (simp (disch := omega) only [go_sem, Nat.reduceEqDiff, ↓reduceIte, reduceCtorEq, Nat.reduceAdd, Nat.reduceMul, Int.reduceToNat, List.reduceReplicate, Nat.reduceLeDiff, Nat.reduceLT, Int.reduceLT, Int.reduceLE, Int.reduceEq]; (try rfl); done))) | fail)

end Go.Proofs.Ytpfoflhhbkjngaa.Ev

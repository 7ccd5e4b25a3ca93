/- Two words joined; the law HarmJoins. -/
import Derived.Test.YtpfoflhhbkjngaaFnHg
set_option linter.unusedVariables false
set_option linter.unusedSimpArgs false
namespace Go.Proofs.Ytpfoflhhbkjngaa.Ev
open Go Go.Proofs

def begB (w x : List Str) : Bool := decide (x.length ≤ w.length) && decide (w.take x.length = x)
def endB (w x : List Str) : Bool := decide (x.length ≤ w.length) && decide (w.drop (w.length - x.length) = x)
/-- ablaut/harm.begins: 2 parameters, 0 captured -/
def s82 : SC := .seq (.reg [⟨(some 4), .mv (.c (.bool false)), none⟩])
  (.seq (.reg [⟨(some 5), .mv (.t 1), none⟩,
      ⟨(some 6), .lenL (.t 5), none⟩,
      ⟨(some 7), .mv (.t 0), none⟩,
      ⟨(some 8), .lenL (.t 7), none⟩,
      ⟨(some 9), .bin .leq (.t 6) (.t 8), none⟩,
      ⟨(some 10), .mv (.t 9), none⟩,
      ⟨(some 11), .mv (.t 0), some (10, true)⟩,
      ⟨(some 12), .mv (.t 1), some (10, true)⟩,
      ⟨(some 13), .lenL (.t 12), some (10, true)⟩,
      ⟨(some 14), .sl 1 (.t 11) none (some (.t 13)), some (10, true)⟩,
      ⟨(some 15), .mv (.t 1), some (10, true)⟩,
      ⟨(some 16), .call (.f 59) [(.t 14), (.t 15)], some (10, true)⟩,
      ⟨(some 17), .pick (.t 10) (.t 16) (.c (.bool false)), none⟩,
      ⟨(some 4), .mv (.t 17), none⟩])
   (.ret))
theorem s82_ok : lookF Try.prog 82 = some (s82, 18, [.tmp 4]) := by kernel_rfl
theorem hBegins_ok (w x : List Str) : Fn P 82 [sl w, sl x] (boolA (begB w x)) := by
  (refine fn_look s82_ok (by simp) (by intro k; simp only [go_sem, Nat.reduceEqDiff, ↓reduceIte, reduceCtorEq, Nat.reduceAdd, Nat.reduceMul, Int.reduceToNat, List.reduceReplicate, Nat.reduceLeDiff, Nat.reduceLT, Int.reduceLT, Int.reduceLE, Int.reduceEq]) fun S hS => cwp_sound _ _ _ _ ?_; simp (disch := omega) only [s82, go_sem, Nat.reduceEqDiff, ↓reduceIte, reduceCtorEq, Nat.reduceAdd, Nat.reduceMul, Int.reduceToNat, List.reduceReplicate, Nat.reduceLeDiff, Nat.reduceLT, Int.reduceLT, Int.reduceLE, Int.reduceEq])
  repeat' (first | (with_reducible refine in_seq ?_) | (with_reducible refine in_reg ?_) | (with_reducible refine in_block ?_) | (with_reducible refine in_cond ?_) | (with_reducible refine in_ret ?_) | (with_reducible refine in_skip ?_) | (simp (disch := omega) only [go_sem, Nat.reduceEqDiff, ↓reduceIte, reduceCtorEq, Nat.reduceAdd, Nat.reduceMul, Int.reduceToNat, List.reduceReplicate, Nat.reduceLeDiff, Nat.reduceLT, Int.reduceLT, Int.reduceLE, Int.reduceEq]) | (with_reducible refine giv_intro fun _h => ?_) | (with_reducible refine alt_intro ?_ (fun _h => ?_)) | ((first | with_reducible refine br_dec (fun _h => ?_) (fun _h => ?_) | with_reducible refine br_ndec (fun _h => ?_) (fun _h => ?_)) <;> (first | (exfalso; omega) | simp only [decide_eq_false _h] | simp only [decide_eq_true _h] | skip)) | ((first | with_reducible refine br_not (fun _h => ?_) (fun _h => ?_) | with_reducible refine br_var (fun _h => ?_) (fun _h => ?_)) <;> (try simp only [_h])) | ((with_reducible apply call (Equal_ok _ _)); (focus (simp (disch := omega) only [go_sem, Nat.reduceEqDiff, ↓reduceIte, reduceCtorEq, Nat.reduceAdd, Nat.reduceMul, Int.reduceToNat, List.reduceReplicate, Nat.reduceLeDiff, Nat.reduceLT, Int.reduceLT, Int.reduceLE, Int.reduceEq]; (try rfl); done))) | fail)
  · rw [begB, decide_eq_true (p := x.length ≤ w.length) (by omega), Bool.true_and]; rfl
  · rw [begB, decide_eq_false (p := x.length ≤ w.length) (by omega), Bool.false_and]
/-- ablaut/ablautref13.begin: 2 parameters, 0 captured -/
def s84 : SC := .seq (.reg [⟨(some 4), .mv (.c (.bool false)), none⟩])
  (.seq (.reg [⟨(some 5), .mv (.t 1), none⟩,
      ⟨(some 6), .lenL (.t 5), none⟩,
      ⟨(some 7), .mv (.t 0), none⟩,
      ⟨(some 8), .lenL (.t 7), none⟩,
      ⟨(some 9), .bin .leq (.t 6) (.t 8), none⟩,
      ⟨(some 10), .mv (.t 9), none⟩,
      ⟨(some 11), .mv (.t 0), some (10, true)⟩,
      ⟨(some 12), .mv (.t 1), some (10, true)⟩,
      ⟨(some 13), .lenL (.t 12), some (10, true)⟩,
      ⟨(some 14), .sl 1 (.t 11) none (some (.t 13)), some (10, true)⟩,
      ⟨(some 15), .mv (.t 1), some (10, true)⟩,
      ⟨(some 16), .call (.f 22) [(.t 14), (.t 15)], some (10, true)⟩,
      ⟨(some 17), .pick (.t 10) (.t 16) (.c (.bool false)), none⟩,
      ⟨(some 4), .mv (.t 17), none⟩])
   (.ret))
theorem s84_ok : lookF Try.prog 84 = some (s84, 18, [.tmp 4]) := by kernel_rfl
theorem rBegin_ok (w x : List Str) : Fn P 84 [sl w, sl x] (boolA (begB w x)) := by
  (refine fn_look s84_ok (by simp) (by intro k; simp only [go_sem, Nat.reduceEqDiff, ↓reduceIte, reduceCtorEq, Nat.reduceAdd, Nat.reduceMul, Int.reduceToNat, List.reduceReplicate, Nat.reduceLeDiff, Nat.reduceLT, Int.reduceLT, Int.reduceLE, Int.reduceEq]) fun S hS => cwp_sound _ _ _ _ ?_; simp (disch := omega) only [s84, go_sem, Nat.reduceEqDiff, ↓reduceIte, reduceCtorEq, Nat.reduceAdd, Nat.reduceMul, Int.reduceToNat, List.reduceReplicate, Nat.reduceLeDiff, Nat.reduceLT, Int.reduceLT, Int.reduceLE, Int.reduceEq])
  repeat' (first | (with_reducible refine in_seq ?_) | (with_reducible refine in_reg ?_) | (with_reducible refine in_block ?_) | (with_reducible refine in_cond ?_) | (with_reducible refine in_ret ?_) | (with_reducible refine in_skip ?_) | (simp (disch := omega) only [go_sem, Nat.reduceEqDiff, ↓reduceIte, reduceCtorEq, Nat.reduceAdd, Nat.reduceMul, Int.reduceToNat, List.reduceReplicate, Nat.reduceLeDiff, Nat.reduceLT, Int.reduceLT, Int.reduceLE, Int.reduceEq]) | (with_reducible refine giv_intro fun _h => ?_) | (with_reducible refine alt_intro ?_ (fun _h => ?_)) | ((first | with_reducible refine br_dec (fun _h => ?_) (fun _h => ?_) | with_reducible refine br_ndec (fun _h => ?_) (fun _h => ?_)) <;> (first | (exfalso; omega) | simp only [decide_eq_false _h] | simp only [decide_eq_true _h] | skip)) | ((first | with_reducible refine br_not (fun _h => ?_) (fun _h => ?_) | with_reducible refine br_var (fun _h => ?_) (fun _h => ?_)) <;> (try simp only [_h])) | ((with_reducible apply call (Same_ok _ _)); (focus (simp (disch := omega) only [go_sem, Nat.reduceEqDiff, ↓reduceIte, reduceCtorEq, Nat.reduceAdd, Nat.reduceMul, Int.reduceToNat, List.reduceReplicate, Nat.reduceLeDiff, Nat.reduceLT, Int.reduceLT, Int.reduceLE, Int.reduceEq]; (try rfl); done))) | fail)
  · rw [begB, decide_eq_true (p := x.length ≤ w.length) (by omega), Bool.true_and]; rfl
  · rw [begB, decide_eq_false (p := x.length ≤ w.length) (by omega), Bool.false_and]
/-- ablaut/ablautref13.end: 2 parameters, 0 captured -/
def s115 : SC := .seq (.reg [⟨(some 4), .mv (.c (.bool false)), none⟩])
  (.seq (.reg [⟨(some 5), .mv (.t 1), none⟩,
      ⟨(some 6), .lenL (.t 5), none⟩,
      ⟨(some 7), .mv (.t 0), none⟩,
      ⟨(some 8), .lenL (.t 7), none⟩,
      ⟨(some 9), .bin .leq (.t 6) (.t 8), none⟩,
      ⟨(some 10), .mv (.t 9), none⟩,
      ⟨(some 11), .mv (.t 0), some (10, true)⟩,
      ⟨(some 12), .mv (.t 0), some (10, true)⟩,
      ⟨(some 13), .lenL (.t 12), some (10, true)⟩,
      ⟨(some 14), .mv (.t 1), some (10, true)⟩,
      ⟨(some 15), .lenL (.t 14), some (10, true)⟩,
      ⟨(some 16), .bin .sub (.t 13) (.t 15), some (10, true)⟩,
      ⟨(some 17), .sl 1 (.t 11) (some (.t 16)) none, some (10, true)⟩,
      ⟨(some 18), .mv (.t 1), some (10, true)⟩,
      ⟨(some 19), .call (.f 22) [(.t 17), (.t 18)], some (10, true)⟩,
      ⟨(some 20), .pick (.t 10) (.t 19) (.c (.bool false)), none⟩,
      ⟨(some 4), .mv (.t 20), none⟩])
   (.ret))
theorem s115_ok : lookF Try.prog 115 = some (s115, 21, [.tmp 4]) := by kernel_rfl
theorem rEnd_ok (w x : List Str) (h : w.length ≤ 1000000000) (h2 : x.length ≤ 1000000000) : Fn P 115 [sl w, sl x] (boolA (endB w x)) := by
  have e1 : x.length ≤ w.length → ((w.length : Int) - x.length).toNat = w.length - x.length := fun h => by omega
  have e2 : List.take (w.length - (w.length - x.length)) (List.drop (w.length - x.length) w) = List.drop (w.length - x.length) w := List.take_of_length_le (by simp)
  (refine fn_look s115_ok (by simp) (by intro k; simp only [go_sem, Nat.reduceEqDiff, ↓reduceIte, reduceCtorEq, Nat.reduceAdd, Nat.reduceMul, Int.reduceToNat, List.reduceReplicate, Nat.reduceLeDiff, Nat.reduceLT, Int.reduceLT, Int.reduceLE, Int.reduceEq]) fun S hS => cwp_sound _ _ _ _ ?_; simp (disch := omega) only [s115, go_sem, Nat.reduceEqDiff, ↓reduceIte, reduceCtorEq, Nat.reduceAdd, Nat.reduceMul, Int.reduceToNat, List.reduceReplicate, Nat.reduceLeDiff, Nat.reduceLT, Int.reduceLT, Int.reduceLE, Int.reduceEq])
  repeat' (first | (with_reducible refine in_seq ?_) | (with_reducible refine in_reg ?_) | (with_reducible refine in_block ?_) | (with_reducible refine in_cond ?_) | (with_reducible refine in_ret ?_) | (with_reducible refine in_skip ?_) | (simp (disch := omega) only [go_sem, Nat.reduceEqDiff, ↓reduceIte, reduceCtorEq, Nat.reduceAdd, Nat.reduceMul, Int.reduceToNat, List.reduceReplicate, Nat.reduceLeDiff, Nat.reduceLT, Int.reduceLT, Int.reduceLE, Int.reduceEq, e1, e2]) | (with_reducible refine giv_intro fun _h => ?_) | (with_reducible refine alt_intro ?_ (fun _h => ?_)) | ((first | with_reducible refine br_dec (fun _h => ?_) (fun _h => ?_) | with_reducible refine br_ndec (fun _h => ?_) (fun _h => ?_)) <;> (first | (exfalso; omega) | simp only [decide_eq_false _h] | simp only [decide_eq_true _h] | skip)) | ((first | with_reducible refine br_not (fun _h => ?_) (fun _h => ?_) | with_reducible refine br_var (fun _h => ?_) (fun _h => ?_)) <;> (try simp only [_h])) | ((with_reducible apply call (Same_ok _ _)); (focus (simp (disch := omega) only [go_sem, Nat.reduceEqDiff, ↓reduceIte, reduceCtorEq, Nat.reduceAdd, Nat.reduceMul, Int.reduceToNat, List.reduceReplicate, Nat.reduceLeDiff, Nat.reduceLT, Int.reduceLT, Int.reduceLE, Int.reduceEq, e1, e2]; (try rfl); done))) | fail)
  · rw [endB, decide_eq_true (p := x.length ≤ w.length) (by omega), Bool.true_and]
  · rw [endB, decide_eq_false (p := x.length ≤ w.length) (by omega), Bool.false_and]
def heldE (w : List Str) : Int := if 60 < w.length then 3 else 0
def heldV (w : List Str) : List Str := if 60 < w.length then [] else w
/-- ablaut/harm.held: 1 parameters, 0 captured -/
def s68 : SC := .seq (.reg [⟨(some 2), .mv (.c (.slice none 0 0)), none⟩,
     ⟨(some 3), .mv (.c (.int .i64 0)), none⟩])
  (.seq (.seq (.reg [⟨(some 4), .mv (.t 0), none⟩,
       ⟨(some 5), .lenL (.t 4), none⟩,
       ⟨(some 6), .bin .gtr (.t 5) (.c (.int .i64 60)), none⟩])
    (.cond (.t 6) (.seq (.reg [⟨(some 2), .mv (.c (.slice none 0 0)), none⟩,
         ⟨(some 3), .mv (.c (.int .i64 3)), none⟩])
      (.ret)) (.skip)))
   (.seq (.reg [⟨(some 7), .mv (.t 0), none⟩,
       ⟨(some 2), .mv (.t 7), none⟩,
       ⟨(some 3), .mv (.c (.int .i64 0)), none⟩])
    (.ret)))
theorem s68_ok : lookF Try.prog 68 = some (s68, 8, [.tmp 2, .tmp 3]) := by kernel_rfl
theorem held_ok (w : List Str) : Fn P 68 [sl w] (.tup [sl (heldV w), intA (heldE w)]) := by
  by_cases h : 60 < w.length
  · rw [heldE, heldV, if_pos h, if_pos h]
    (refine fn_look s68_ok (by simp) (by intro k; simp only [go_sem, Nat.reduceEqDiff, ↓reduceIte, reduceCtorEq, Nat.reduceAdd, Nat.reduceMul, Int.reduceToNat, List.reduceReplicate, Nat.reduceLeDiff, Nat.reduceLT, Int.reduceLT, Int.reduceLE, Int.reduceEq]) fun S hS => cwp_sound _ _ _ _ ?_; simp (disch := omega) only [s68, go_sem, Nat.reduceEqDiff, ↓reduceIte, reduceCtorEq, Nat.reduceAdd, Nat.reduceMul, Int.reduceToNat, List.reduceReplicate, Nat.reduceLeDiff, Nat.reduceLT, Int.reduceLT, Int.reduceLE, Int.reduceEq])
    repeat' (first | (with_reducible refine in_seq ?_) | (with_reducible refine in_reg ?_) | (with_reducible refine in_block ?_) | (with_reducible refine in_cond ?_) | (with_reducible refine in_ret ?_) | (with_reducible refine in_skip ?_) | (simp (disch := omega) only [go_sem, Nat.reduceEqDiff, ↓reduceIte, reduceCtorEq, Nat.reduceAdd, Nat.reduceMul, Int.reduceToNat, List.reduceReplicate, Nat.reduceLeDiff, Nat.reduceLT, Int.reduceLT, Int.reduceLE, Int.reduceEq]) | (with_reducible refine giv_intro fun _h => ?_) | (with_reducible refine alt_intro ?_ (fun _h => ?_)) | ((first | with_reducible refine br_dec (fun _h => ?_) (fun _h => ?_) | with_reducible refine br_ndec (fun _h => ?_) (fun _h => ?_)) <;> (first | (exfalso; omega) | simp only [decide_eq_false _h] | simp only [decide_eq_true _h] | skip)) | ((first | with_reducible refine br_not (fun _h => ?_) (fun _h => ?_) | with_reducible refine br_var (fun _h => ?_) (fun _h => ?_)) <;> (try simp only [_h])) | fail)
    rfl
  · rw [heldE, heldV, if_neg h, if_neg h]
    (refine fn_look s68_ok (by simp) (by intro k; simp only [go_sem, Nat.reduceEqDiff, ↓reduceIte, reduceCtorEq, Nat.reduceAdd, Nat.reduceMul, Int.reduceToNat, List.reduceReplicate, Nat.reduceLeDiff, Nat.reduceLT, Int.reduceLT, Int.reduceLE, Int.reduceEq]) fun S hS => cwp_sound _ _ _ _ ?_; simp (disch := omega) only [s68, go_sem, Nat.reduceEqDiff, ↓reduceIte, reduceCtorEq, Nat.reduceAdd, Nat.reduceMul, Int.reduceToNat, List.reduceReplicate, Nat.reduceLeDiff, Nat.reduceLT, Int.reduceLT, Int.reduceLE, Int.reduceEq])
    repeat' (first | (with_reducible refine in_seq ?_) | (with_reducible refine in_reg ?_) | (with_reducible refine in_block ?_) | (with_reducible refine in_cond ?_) | (with_reducible refine in_ret ?_) | (with_reducible refine in_skip ?_) | (simp (disch := omega) only [go_sem, Nat.reduceEqDiff, ↓reduceIte, reduceCtorEq, Nat.reduceAdd, Nat.reduceMul, Int.reduceToNat, List.reduceReplicate, Nat.reduceLeDiff, Nat.reduceLT, Int.reduceLT, Int.reduceLE, Int.reduceEq]) | (with_reducible refine giv_intro fun _h => ?_) | (with_reducible refine alt_intro ?_ (fun _h => ?_)) | ((first | with_reducible refine br_dec (fun _h => ?_) (fun _h => ?_) | with_reducible refine br_ndec (fun _h => ?_) (fun _h => ?_)) <;> (first | (exfalso; omega) | simp only [decide_eq_false _h] | simp only [decide_eq_true _h] | skip)) | ((first | with_reducible refine br_not (fun _h => ?_) (fun _h => ?_) | with_reducible refine br_var (fun _h => ?_) (fun _h => ?_)) <;> (try simp only [_h])) | fail)
/-- ablaut/ablautref13.short: 1 parameters, 0 captured -/
def s71 : SC := .seq (.reg [⟨(some 2), .mv (.c (.slice none 0 0)), none⟩,
     ⟨(some 3), .mv (.c (.int .i64 0)), none⟩])
  (.seq (.seq (.reg [⟨(some 4), .mv (.t 0), none⟩,
       ⟨(some 5), .lenL (.t 4), none⟩,
       ⟨(some 6), .bin .gtr (.t 5) (.c (.int .i64 60)), none⟩])
    (.cond (.t 6) (.seq (.reg [⟨(some 2), .mv (.c (.slice none 0 0)), none⟩,
         ⟨(some 3), .mv (.c (.int .i64 3)), none⟩])
      (.ret)) (.skip)))
   (.seq (.reg [⟨(some 7), .mv (.t 0), none⟩,
       ⟨(some 2), .mv (.t 7), none⟩,
       ⟨(some 3), .mv (.c (.int .i64 0)), none⟩])
    (.ret)))
theorem s71_ok : lookF Try.prog 71 = some (s71, 8, [.tmp 2, .tmp 3]) := by kernel_rfl
theorem short_ok (w : List Str) : Fn P 71 [sl w] (.tup [sl (heldV w), intA (heldE w)]) := by
  by_cases h : 60 < w.length
  · rw [heldE, heldV, if_pos h, if_pos h]
    (refine fn_look s71_ok (by simp) (by intro k; simp only [go_sem, Nat.reduceEqDiff, ↓reduceIte, reduceCtorEq, Nat.reduceAdd, Nat.reduceMul, Int.reduceToNat, List.reduceReplicate, Nat.reduceLeDiff, Nat.reduceLT, Int.reduceLT, Int.reduceLE, Int.reduceEq]) fun S hS => cwp_sound _ _ _ _ ?_; simp (disch := omega) only [s71, go_sem, Nat.reduceEqDiff, ↓reduceIte, reduceCtorEq, Nat.reduceAdd, Nat.reduceMul, Int.reduceToNat, List.reduceReplicate, Nat.reduceLeDiff, Nat.reduceLT, Int.reduceLT, Int.reduceLE, Int.reduceEq])
    repeat' (first | (with_reducible refine in_seq ?_) | (with_reducible refine in_reg ?_) | (with_reducible refine in_block ?_) | (with_reducible refine in_cond ?_) | (with_reducible refine in_ret ?_) | (with_reducible refine in_skip ?_) | (simp (disch := omega) only [go_sem, Nat.reduceEqDiff, ↓reduceIte, reduceCtorEq, Nat.reduceAdd, Nat.reduceMul, Int.reduceToNat, List.reduceReplicate, Nat.reduceLeDiff, Nat.reduceLT, Int.reduceLT, Int.reduceLE, Int.reduceEq]) | (with_reducible refine giv_intro fun _h => ?_) | (with_reducible refine alt_intro ?_ (fun _h => ?_)) | ((first | with_reducible refine br_dec (fun _h => ?_) (fun _h => ?_) | with_reducible refine br_ndec (fun _h => ?_) (fun _h => ?_)) <;> (first | (exfalso; omega) | simp only [decide_eq_false _h] | simp only [decide_eq_true _h] | skip)) | ((first | with_reducible refine br_not (fun _h => ?_) (fun _h => ?_) | with_reducible refine br_var (fun _h => ?_) (fun _h => ?_)) <;> (try simp only [_h])) | fail)
    rfl
  · rw [heldE, heldV, if_neg h, if_neg h]
    (refine fn_look s71_ok (by simp) (by intro k; simp only [go_sem, Nat.reduceEqDiff, ↓reduceIte, reduceCtorEq, Nat.reduceAdd, Nat.reduceMul, Int.reduceToNat, List.reduceReplicate, Nat.reduceLeDiff, Nat.reduceLT, Int.reduceLT, Int.reduceLE, Int.reduceEq]) fun S hS => cwp_sound _ _ _ _ ?_; simp (disch := omega) only [s71, go_sem, Nat.reduceEqDiff, ↓reduceIte, reduceCtorEq, Nat.reduceAdd, Nat.reduceMul, Int.reduceToNat, List.reduceReplicate, Nat.reduceLeDiff, Nat.reduceLT, Int.reduceLT, Int.reduceLE, Int.reduceEq])
    repeat' (first | (with_reducible refine in_seq ?_) | (with_reducible refine in_reg ?_) | (with_reducible refine in_block ?_) | (with_reducible refine in_cond ?_) | (with_reducible refine in_ret ?_) | (with_reducible refine in_skip ?_) | (simp (disch := omega) only [go_sem, Nat.reduceEqDiff, ↓reduceIte, reduceCtorEq, Nat.reduceAdd, Nat.reduceMul, Int.reduceToNat, List.reduceReplicate, Nat.reduceLeDiff, Nat.reduceLT, Int.reduceLT, Int.reduceLE, Int.reduceEq]) | (with_reducible refine giv_intro fun _h => ?_) | (with_reducible refine alt_intro ?_ (fun _h => ?_)) | ((first | with_reducible refine br_dec (fun _h => ?_) (fun _h => ?_) | with_reducible refine br_ndec (fun _h => ?_) (fun _h => ?_)) <;> (first | (exfalso; omega) | simp only [decide_eq_false _h] | simp only [decide_eq_true _h] | skip)) | ((first | with_reducible refine br_not (fun _h => ?_) (fun _h => ?_) | with_reducible refine br_var (fun _h => ?_) (fun _h => ?_)) <;> (try simp only [_h])) | fail)

theorem wk_nilsl {α : Type} {k : Nat} [Enc α k] : Wk (.sc (.slice none 0 0)) (sl ([] : List α)) := fun G v h => by have := wk_nil; exact (of_eq_true this) G v h
/-- The joint that is taken. -/
def pickJ (a b : List Str) (best j : Joint) : Joint := if (endB a j.1 && begB b j.2.1) = true ∧ wtJ best < wtJ j then j else best
def zJ : Joint := ([], [], [])
def bestJ (a b : List Str) (l : List Joint) : Joint := l.foldl (pickJ a b) zJ
theorem bestJ_step (a b : List Str) {l : List Joint} {i : Nat} (h : i < l.length) : bestJ a b (l.take (i + 1)) = pickJ a b (bestJ a b (l.take i)) (nth l i) := by
  rw [bestJ, List.take_add_one, nth_get? h]; simp [bestJ]
structure FitJ (a b : List Str) (j : Joint) : Prop where
  h1 : j.1.length ≤ a.length
  h2 : j.2.1.length ≤ b.length
  h3 : j.1.length ≤ 1000 ∧ j.2.1.length ≤ 1000 ∧ j.2.2.length ≤ 1000
theorem bestJ_fit (a b : List Str) {l : List Joint} (hl : ∀ j ∈ l, j.1.length ≤ 1000 ∧ j.2.1.length ≤ 1000 ∧ j.2.2.length ≤ 1000) : ∀ i, i ≤ l.length → FitJ a b (bestJ a b (l.take i))
  | 0, _ => ⟨by simp [bestJ, zJ], by simp [bestJ, zJ], by simp [bestJ, zJ]⟩
  | i + 1, hi => by
    rw [bestJ_step a b (by omega), pickJ]
    split
    · rename_i h
      simp only [endB, begB, Bool.and_eq_true, decide_eq_true_eq] at h
      exact ⟨h.1.1.1, h.1.2.1, hl _ (nth_mem (by omega))⟩
    · exact bestJ_fit a b hl i (by omega)
def joinL (l : List Joint) (a b : List Str) : List Str := a.take (a.length - (bestJ a b l).1.length) ++ ((bestJ a b l).2.2 ++ b.drop (bestJ a b l).2.1.length)
/-- ablaut/harm.joined: 3 parameters, 0 captured -/
def s69 : SC := .seq (.reg [⟨(some 6), .mv (.c (.slice none 0 0)), none⟩])
  (.seq (.reg [⟨(some 7), .alloc 83 3 [(.slice none 0 0), (.slice none 0 0), (.slice none 0 0)], none⟩])
   (.seq (.seq (.reg [⟨(some 11), .mv (.t 0), none⟩,
        ⟨(some 12), .lenL (.t 11), none⟩,
        ⟨(some 13), .mv (.c (.int .i64 0)), none⟩])
     (.block 0 (.loop (.seq (.reg [⟨(some 14), .bin .lss (.t 13) (.t 12), none⟩])
        (.seq (.cond (.t 14) (.skip) (.exit 0))
         (.seq (.block 1 (.seq (.reg [⟨(some 15), .iaddr 3 (.t 11) (.t 13), none⟩,
               ⟨(some 16), .load (some 3) (.t 15), none⟩,
               ⟨(some 9), .alloc 83 3 [(.slice none 0 0), (.slice none 0 0), (.slice none 0 0)], none⟩,
               ⟨none, .store 3 (.t 9) (.t 16), none⟩])
            (.seq (.regD [⟨(some 17), .faddr 0 (.t 9), none⟩,
                ⟨(some 18), .load none (.t 17), none⟩,
                ⟨(some 19), .lenL (.t 18), none⟩,
                ⟨(some 20), .mv (.t 1), none⟩,
                ⟨(some 21), .lenL (.t 20), none⟩,
                ⟨(some 22), .bin .leq (.t 19) (.t 21), none⟩,
                ⟨(some 23), .mv (.t 22), none⟩,
                ⟨(some 24), .mv (.t 1), some (23, true)⟩,
                ⟨(some 25), .mv (.t 1), some (23, true)⟩,
                ⟨(some 26), .lenL (.t 25), some (23, true)⟩,
                ⟨(some 27), .faddr 0 (.t 9), some (23, true)⟩,
                ⟨(some 28), .load none (.t 27), some (23, true)⟩,
                ⟨(some 29), .lenL (.t 28), some (23, true)⟩,
                ⟨(some 30), .bin .sub (.t 26) (.t 29), some (23, true)⟩,
                ⟨(some 31), .sl 1 (.t 24) (some (.t 30)) none, some (23, true)⟩,
                ⟨(some 32), .faddr 0 (.t 9), some (23, true)⟩,
                ⟨(some 33), .load none (.t 32), some (23, true)⟩,
                ⟨(some 34), .call (.f 59) [(.t 31), (.t 33)], some (23, true)⟩,
                ⟨(some 35), .pick (.t 23) (.t 34) (.c (.bool false)), none⟩,
                ⟨(some 10), .mv (.t 35), none⟩])
             (.seq (.reg [⟨(some 36), .mv (.t 10), none⟩,
                 ⟨(some 37), .mv (.t 36), none⟩,
                 ⟨(some 38), .mv (.t 2), some (37, true)⟩,
                 ⟨(some 39), .faddr 1 (.t 9), some (37, true)⟩,
                 ⟨(some 40), .load none (.t 39), some (37, true)⟩,
                 ⟨(some 41), .call (.f 82) [(.t 38), (.t 40)], some (37, true)⟩,
                 ⟨(some 42), .pick (.t 37) (.t 41) (.c (.bool false)), none⟩,
                 ⟨(some 43), .mv (.t 42), none⟩,
                 ⟨(some 44), .faddr 0 (.t 9), some (43, true)⟩,
                 ⟨(some 45), .load none (.t 44), some (43, true)⟩,
                 ⟨(some 46), .lenL (.t 45), some (43, true)⟩,
                 ⟨(some 47), .faddr 1 (.t 9), some (43, true)⟩,
                 ⟨(some 48), .load none (.t 47), some (43, true)⟩,
                 ⟨(some 49), .lenL (.t 48), some (43, true)⟩,
                 ⟨(some 50), .bin .add (.t 46) (.t 49), some (43, true)⟩,
                 ⟨(some 51), .faddr 0 (.t 7), some (43, true)⟩,
                 ⟨(some 52), .load none (.t 51), some (43, true)⟩,
                 ⟨(some 53), .lenL (.t 52), some (43, true)⟩,
                 ⟨(some 54), .faddr 1 (.t 7), some (43, true)⟩,
                 ⟨(some 55), .load none (.t 54), some (43, true)⟩,
                 ⟨(some 56), .lenL (.t 55), some (43, true)⟩,
                 ⟨(some 57), .bin .add (.t 53) (.t 56), some (43, true)⟩,
                 ⟨(some 58), .bin .gtr (.t 50) (.t 57), some (43, true)⟩,
                 ⟨(some 59), .pick (.t 43) (.t 58) (.c (.bool false)), none⟩])
              (.cond (.t 59) (.reg [⟨(some 60), .load (some 3) (.t 9), none⟩,
                  ⟨none, .store 3 (.t 7) (.t 60), none⟩]) (.skip))))))
          (.reg [⟨(some 61), .bin .add (.t 13) (.c (.int .i64 1)), none⟩,
             ⟨(some 13), .mv (.t 61), none⟩])))))))
    (.seq (.regD [⟨(some 62), .mv (.t 1), none⟩,
        ⟨(some 63), .mv (.t 1), none⟩,
        ⟨(some 64), .lenL (.t 63), none⟩,
        ⟨(some 65), .faddr 0 (.t 7), none⟩,
        ⟨(some 66), .load none (.t 65), none⟩,
        ⟨(some 67), .lenL (.t 66), none⟩,
        ⟨(some 68), .bin .sub (.t 64) (.t 67), none⟩,
        ⟨(some 69), .sl 1 (.t 62) none (some (.t 68)), none⟩,
        ⟨(some 70), .faddr 2 (.t 7), none⟩,
        ⟨(some 71), .load none (.t 70), none⟩,
        ⟨(some 72), .mv (.t 2), none⟩,
        ⟨(some 73), .faddr 1 (.t 7), none⟩,
        ⟨(some 74), .load none (.t 73), none⟩,
        ⟨(some 75), .lenL (.t 74), none⟩,
        ⟨(some 76), .sl 1 (.t 72) (some (.t 75)) none, none⟩,
        ⟨(some 77), .buildSl 22 1 3 [(.slice none 0 0)] [(0, 1, (.t 69)), (1, 1, (.t 71)), (2, 1, (.t 76))], none⟩,
        ⟨(some 78), .call (.f 75) [(.t 77)], none⟩,
        ⟨(some 6), .mv (.t 78), none⟩])
     (.ret))))
theorem s69_ok : lookF Try.prog 69 = some (s69, 79, [.tmp 6]) := by kernel_rfl
set_option maxHeartbeats 2000000 in
theorem joined_ok (l : List Joint) (a b : List Str) (hl : ∀ j ∈ l, j.1.length ≤ 1000 ∧ j.2.1.length ≤ 1000 ∧ j.2.2.length ≤ 1000) (ha : a.length ≤ 1000000) (hb : b.length ≤ 1000000) : Fn P 69 [sl l, sl a, sl b] (sl (joinL l a b)) := by
  (refine fn_look s69_ok (by simp) (by intro k; simp only [go_sem, Nat.reduceEqDiff, ↓reduceIte, reduceCtorEq, Nat.reduceAdd, Nat.reduceMul, Int.reduceToNat, List.reduceReplicate, Nat.reduceLeDiff, Nat.reduceLT, Int.reduceLT, Int.reduceLE, Int.reduceEq]) fun S hS => cwp_sound _ _ _ _ ?_; simp (disch := omega) only [s69, go_sem, Nat.reduceEqDiff, ↓reduceIte, reduceCtorEq, Nat.reduceAdd, Nat.reduceMul, Int.reduceToNat, List.reduceReplicate, Nat.reduceLeDiff, Nat.reduceLT, Int.reduceLT, Int.reduceLE, Int.reduceEq])
  repeat' (first | (with_reducible refine in_seq ?_) | (with_reducible refine in_reg ?_) | (with_reducible refine in_block ?_) | (with_reducible refine in_cond ?_) | (with_reducible refine in_ret ?_) | (with_reducible refine in_skip ?_) | (simp (disch := omega) only [go_sem, Nat.reduceEqDiff, ↓reduceIte, reduceCtorEq, Nat.reduceAdd, Nat.reduceMul, Int.reduceToNat, List.reduceReplicate, Nat.reduceLeDiff, Nat.reduceLT, Int.reduceLT, Int.reduceLE, Int.reduceEq]) | (with_reducible refine giv_intro fun _h => ?_) | (with_reducible refine alt_intro ?_ (fun _h => ?_)) | ((first | with_reducible refine br_dec (fun _h => ?_) (fun _h => ?_) | with_reducible refine br_ndec (fun _h => ?_) (fun _h => ?_)) <;> (first | (exfalso; omega) | simp only [decide_eq_false _h] | simp only [decide_eq_true _h] | skip)) | ((first | with_reducible refine br_not (fun _h => ?_) (fun _h => ?_) | with_reducible refine br_var (fun _h => ?_) (fun _h => ?_)) <;> (try simp only [_h])) | fail)
  refine retype 0 83 [zJ] rfl (by simp only [cellsL_cons, cellsL_nil, cells_p3, cells_l, zJ]; simp (disch := omega) only [go_sem, Nat.reduceEqDiff, ↓reduceIte, reduceCtorEq, Nat.reduceAdd, Nat.reduceMul, Int.reduceToNat, List.reduceReplicate, Nat.reduceLeDiff, Nat.reduceLT, Int.reduceLT, Int.reduceLE, Int.reduceEq]; exact ⟨wk_nilsl, wk_nilsl, wk_nilsl⟩) ?_
  simp only [List.set_cons_zero]
  (refine loopC hS [1, 2, 7, 11, 12] (by simp only [go_sem, Nat.reduceEqDiff, ↓reduceIte, reduceCtorEq, Nat.reduceAdd, Nat.reduceMul, Int.reduceToNat, List.reduceReplicate, Nat.reduceLeDiff, Nat.reduceLT, Int.reduceLT, Int.reduceLE, Int.reduceEq]; try rfl) (fun (i : Nat) => [(13, intA i)]) (fun (i : Nat) => [rowO 83 [bestJ a b (l.take i)]]) (fun (i : Nat) => i ≤ l.length) (fun (i : Nat) => l.length - i) (0) ?h01 ?hn1 ?rd1; case hn1 => (intro s; first | rfl | (rcases s with ⟨_, _⟩; rfl) | (rcases s with ⟨_, _, _⟩; rfl) | (rcases s with ⟨_, _, _, _⟩; rfl) | (rcases s with ⟨_, _, _, _, _⟩; rfl)))
  · simp (disch := omega) only [go_sem, Nat.reduceEqDiff, ↓reduceIte, reduceCtorEq, Nat.reduceAdd, Nat.reduceMul, Int.reduceToNat, List.reduceReplicate, Nat.reduceLeDiff, Nat.reduceLT, Int.reduceLT, Int.reduceLE, Int.reduceEq]; simp [bestJ]
  rintro i hi
  replace hi : i ≤ l.length := hi
  have fit := bestJ_fit a b hl i hi
  obtain ⟨f1, f2, f3⟩ := fit
  have sb : i < l.length → bestJ a b (l.take (i + 1)) = pickJ a b (bestJ a b (l.take i)) (nth l i) := fun h => bestJ_step a b h
  generalize hbj : bestJ a b (l.take i) = bj at *
  by_cases hil : i < l.length
  · have hj := hl _ (nth_mem hil)
    have e1 : (nth l i).1.length ≤ a.length → ((a.length : Int) - (nth l i).1.length).toNat = a.length - (nth l i).1.length := fun h => by omega
    have e2 : List.take (a.length - (a.length - (nth l i).1.length)) (List.drop (a.length - (nth l i).1.length) a) = List.drop (a.length - (nth l i).1.length) a := List.take_of_length_le (by simp)
    have d1 := Equal_ok (List.drop (a.length - (nth l i).1.length) a) (nth l i).1
    have c1 := hBegins_ok b (nth l i).2.1
    repeat' (first | (with_reducible refine in_seq ?_) | (with_reducible refine in_reg ?_) | (with_reducible refine in_block ?_) | (with_reducible refine in_cond ?_) | (with_reducible refine in_ret ?_) | (with_reducible refine in_skip ?_) | (simp (disch := omega) only [go_sem, Nat.reduceEqDiff, ↓reduceIte, reduceCtorEq, Nat.reduceAdd, Nat.reduceMul, Int.reduceToNat, List.reduceReplicate, Nat.reduceLeDiff, Nat.reduceLT, Int.reduceLT, Int.reduceLE, Int.reduceEq, e1, e2]) | (with_reducible refine giv_intro fun _h => ?_) | (with_reducible refine alt_intro ?_ (fun _h => ?_)) | ((first | with_reducible refine br_dec (fun _h => ?_) (fun _h => ?_) | with_reducible refine br_ndec (fun _h => ?_) (fun _h => ?_)) <;> (first | (exfalso; omega) | simp only [decide_eq_false _h] | simp only [decide_eq_true _h] | skip)) | ((first | with_reducible refine br_not (fun _h => ?_) (fun _h => ?_) | with_reducible refine br_var (fun _h => ?_) (fun _h => ?_)) <;> (try simp only [_h])) | ((with_reducible apply call_D (d1)); (focus (simp (disch := omega) only [go_sem, Nat.reduceEqDiff, ↓reduceIte, reduceCtorEq, Nat.reduceAdd, Nat.reduceMul, Int.reduceToNat, List.reduceReplicate, Nat.reduceLeDiff, Nat.reduceLT, Int.reduceLT, Int.reduceLE, Int.reduceEq, e1, e2]; (try rfl); done))) | ((with_reducible apply call (c1)); (focus (simp (disch := omega) only [go_sem, Nat.reduceEqDiff, ↓reduceIte, reduceCtorEq, Nat.reduceAdd, Nat.reduceMul, Int.reduceToNat, List.reduceReplicate, Nat.reduceLeDiff, Nat.reduceLT, Int.reduceLT, Int.reduceLE, Int.reduceEq, e1, e2]; (try rfl); done))) | fail)
    · have e : bestJ a b (l.take (i + 1)) = nth l i := by
        rw [sb hil, pickJ, if_pos]
        exact ⟨by simp only [endB, Bool.and_eq_true, decide_eq_true_eq]; exact ⟨⟨by omega, by assumption⟩, by assumption⟩, by simp only [wtJ]; omega⟩
      exact ⟨i + 1, ⟨by omega, by omega⟩, by omega, by rw [e]⟩
    all_goals
      have e : bestJ a b (l.take (i + 1)) = bj := by
        rw [sb hil, pickJ, if_neg]
        simp only [endB, wtJ, Bool.and_eq_true, decide_eq_true_eq]
        rintro ⟨⟨⟨g1, g2⟩, g3⟩, g4⟩
        first
          | omega
          | (rw [g3] at _h; cases _h)
          | exact absurd g2 (by assumption)
      exact ⟨i + 1, ⟨by omega, by omega⟩, by omega, by rw [e]⟩
  · have hz : l.take i = l := List.take_of_length_le (by omega)
    rw [hz] at hbj
    have ej : joinL l a b = List.flatten [a.take (a.length - bj.1.length), bj.2.2, b.drop bj.2.1.length] := by rw [joinL, hbj]; simp
    have k1 := concatS_ok [a.take (a.length - bj.1.length), bj.2.2, b.drop bj.2.1.length] (by simp) (by simp; omega)
    have e1 : ((a.length : Int) - bj.1.length).toNat = a.length - bj.1.length := by omega
    have e2 : List.take (b.length - bj.2.1.length) (List.drop bj.2.1.length b) = List.drop bj.2.1.length b := List.take_of_length_le (by simp)
    rw [← ej] at k1
    repeat' (first | (with_reducible refine in_seq ?_) | (with_reducible refine in_reg ?_) | (with_reducible refine in_block ?_) | (with_reducible refine in_cond ?_) | (with_reducible refine in_ret ?_) | (with_reducible refine in_skip ?_) | (simp (disch := omega) only [go_sem, Nat.reduceEqDiff, ↓reduceIte, reduceCtorEq, Nat.reduceAdd, Nat.reduceMul, Int.reduceToNat, List.reduceReplicate, Nat.reduceLeDiff, Nat.reduceLT, Int.reduceLT, Int.reduceLE, Int.reduceEq, e1, e2]) | (with_reducible refine giv_intro fun _h => ?_) | (with_reducible refine alt_intro ?_ (fun _h => ?_)) | ((first | with_reducible refine br_dec (fun _h => ?_) (fun _h => ?_) | with_reducible refine br_ndec (fun _h => ?_) (fun _h => ?_)) <;> (first | (exfalso; omega) | simp only [decide_eq_false _h] | simp only [decide_eq_true _h] | skip)) | ((first | with_reducible refine br_not (fun _h => ?_) (fun _h => ?_) | with_reducible refine br_var (fun _h => ?_) (fun _h => ?_)) <;> (try simp only [_h])) | ((with_reducible apply call_D (k1)); (focus (simp (disch := omega) only [go_sem, Nat.reduceEqDiff, ↓reduceIte, reduceCtorEq, Nat.reduceAdd, Nat.reduceMul, Int.reduceToNat, List.reduceReplicate, Nat.reduceLeDiff, Nat.reduceLT, Int.reduceLT, Int.reduceLE, Int.reduceEq, e1, e2]; (try rfl); done))) | fail)

/-- Which joint is the best one, by its place. -/
def IsBest (a b : List Str) (l : List Joint) (i : Nat) (k : Int) : Prop := -1 ≤ k ∧ k < i ∧ (k < 0 → bestJ a b (l.take i) = zJ) ∧ (0 ≤ k → bestJ a b (l.take i) = nth l k.toNat)
/-- ablaut/ablautref13.sandhi: 3 parameters, 0 captured -/
def s72 : SC := .seq (.reg [⟨(some 6), .mv (.c (.slice none 0 0)), none⟩])
  (.seq (.reg [⟨(some 7), .mv (.c (.int .i64 (-1))), none⟩])
   (.seq (.seq (.reg [⟨(some 8), .mv (.c (.int .i64 0)), none⟩])
     (.block 0 (.loop (.seq (.seq (.reg [⟨(some 10), .mv (.t 8), none⟩,
            ⟨(some 11), .mv (.t 0), none⟩,
            ⟨(some 12), .lenL (.t 11), none⟩,
            ⟨(some 13), .bin .lss (.t 10) (.t 12), none⟩])
         (.cond (.t 13) (.skip) (.exit 0)))
        (.seq (.block 1 (.seq (.regD [⟨(some 16), .mv (.t 1), none⟩,
              ⟨(some 17), .mv (.t 0), none⟩,
              ⟨(some 18), .mv (.t 8), none⟩,
              ⟨(some 19), .iaddr 3 (.t 17) (.t 18), none⟩,
              ⟨(some 20), .faddr 0 (.t 19), none⟩,
              ⟨(some 21), .load none (.t 20), none⟩,
              ⟨(some 22), .call (.f 115) [(.t 16), (.t 21)], none⟩,
              ⟨(some 23), .mv (.t 22), none⟩,
              ⟨(some 24), .mv (.t 2), some (23, true)⟩,
              ⟨(some 25), .mv (.t 0), some (23, true)⟩,
              ⟨(some 26), .mv (.t 8), some (23, true)⟩,
              ⟨(some 27), .iaddr 3 (.t 25) (.t 26), some (23, true)⟩,
              ⟨(some 28), .faddr 1 (.t 27), some (23, true)⟩,
              ⟨(some 29), .load none (.t 28), some (23, true)⟩,
              ⟨(some 30), .call (.f 84) [(.t 24), (.t 29)], some (23, true)⟩,
              ⟨(some 31), .pick (.t 23) (.t 30) (.c (.bool false)), none⟩,
              ⟨(some 32), .mv (.t 31), none⟩,
              ⟨(some 33), .mv (.t 7), some (32, true)⟩,
              ⟨(some 34), .bin .lss (.t 33) (.c (.int .i64 0)), some (32, true)⟩,
              ⟨(some 35), .mv (.t 34), some (32, true)⟩,
              ⟨(some 36), .mv (.t 0), some (35, false)⟩,
              ⟨(some 37), .mv (.t 8), some (35, false)⟩,
              ⟨(some 38), .iaddr 3 (.t 36) (.t 37), some (35, false)⟩,
              ⟨(some 39), .faddr 0 (.t 38), some (35, false)⟩,
              ⟨(some 40), .load none (.t 39), some (35, false)⟩,
              ⟨(some 41), .lenL (.t 40), some (35, false)⟩,
              ⟨(some 42), .mv (.t 0), some (35, false)⟩,
              ⟨(some 43), .mv (.t 8), some (35, false)⟩,
              ⟨(some 44), .iaddr 3 (.t 42) (.t 43), some (35, false)⟩,
              ⟨(some 45), .faddr 1 (.t 44), some (35, false)⟩,
              ⟨(some 46), .load none (.t 45), some (35, false)⟩,
              ⟨(some 47), .lenL (.t 46), some (35, false)⟩,
              ⟨(some 48), .bin .add (.t 41) (.t 47), some (35, false)⟩,
              ⟨(some 49), .mv (.t 0), some (35, false)⟩,
              ⟨(some 50), .mv (.t 7), some (35, false)⟩,
              ⟨(some 51), .iaddr 3 (.t 49) (.t 50), some (35, false)⟩,
              ⟨(some 52), .faddr 0 (.t 51), some (35, false)⟩,
              ⟨(some 53), .load none (.t 52), some (35, false)⟩,
              ⟨(some 54), .lenL (.t 53), some (35, false)⟩,
              ⟨(some 55), .mv (.t 0), some (35, false)⟩,
              ⟨(some 56), .mv (.t 7), some (35, false)⟩,
              ⟨(some 57), .iaddr 3 (.t 55) (.t 56), some (35, false)⟩,
              ⟨(some 58), .faddr 1 (.t 57), some (35, false)⟩,
              ⟨(some 59), .load none (.t 58), some (35, false)⟩,
              ⟨(some 60), .lenL (.t 59), some (35, false)⟩,
              ⟨(some 61), .bin .add (.t 54) (.t 60), some (35, false)⟩,
              ⟨(some 62), .bin .gtr (.t 48) (.t 61), some (35, false)⟩,
              ⟨(some 63), .pick (.t 35) (.c (.bool true)) (.t 62), some (32, true)⟩,
              ⟨(some 64), .pick (.t 32) (.t 63) (.c (.bool false)), none⟩])
           (.cond (.t 64) (.reg [⟨(some 65), .mv (.t 8), none⟩,
               ⟨(some 7), .mv (.t 65), none⟩]) (.skip))))
         (.reg [⟨(some 14), .mv (.t 8), none⟩,
            ⟨(some 15), .bin .add (.t 14) (.c (.int .i64 1)), none⟩,
            ⟨(some 8), .mv (.t 15), none⟩]))))))
    (.seq (.seq (.reg [⟨(some 66), .mv (.t 7), none⟩,
         ⟨(some 67), .bin .lss (.t 66) (.c (.int .i64 0)), none⟩])
      (.cond (.t 67) (.seq (.reg [⟨(some 68), .mv (.t 1), none⟩,
           ⟨(some 69), .mv (.t 2), none⟩,
           ⟨(some 70), .call (.f 28) [(.t 68), (.t 69)], none⟩,
           ⟨(some 6), .mv (.t 70), none⟩])
        (.ret)) (.skip)))
     (.seq (.reg [⟨(some 71), .mv (.t 0), none⟩,
         ⟨(some 72), .mv (.t 7), none⟩,
         ⟨(some 73), .iaddr 3 (.t 71) (.t 72), none⟩,
         ⟨(some 74), .load (some 3) (.t 73), none⟩,
         ⟨(some 9), .alloc 83 3 [(.slice none 0 0), (.slice none 0 0), (.slice none 0 0)], none⟩,
         ⟨none, .store 3 (.t 9) (.t 74), none⟩])
      (.seq (.regD [⟨(some 75), .mv (.t 1), none⟩,
          ⟨(some 76), .mv (.t 1), none⟩,
          ⟨(some 77), .lenL (.t 76), none⟩,
          ⟨(some 78), .faddr 0 (.t 9), none⟩,
          ⟨(some 79), .load none (.t 78), none⟩,
          ⟨(some 80), .lenL (.t 79), none⟩,
          ⟨(some 81), .bin .sub (.t 77) (.t 80), none⟩,
          ⟨(some 82), .sl 1 (.t 75) none (some (.t 81)), none⟩,
          ⟨(some 83), .faddr 2 (.t 9), none⟩,
          ⟨(some 84), .load none (.t 83), none⟩,
          ⟨(some 85), .call (.f 28) [(.t 82), (.t 84)], none⟩,
          ⟨(some 86), .mv (.t 2), none⟩,
          ⟨(some 87), .faddr 1 (.t 9), none⟩,
          ⟨(some 88), .load none (.t 87), none⟩,
          ⟨(some 89), .lenL (.t 88), none⟩,
          ⟨(some 90), .sl 1 (.t 86) (some (.t 89)) none, none⟩,
          ⟨(some 91), .call (.f 28) [(.t 85), (.t 90)], none⟩,
          ⟨(some 6), .mv (.t 91), none⟩])
       (.ret))))))
theorem s72_ok : lookF Try.prog 72 = some (s72, 92, [.tmp 6]) := by kernel_rfl
set_option maxHeartbeats 2000000 in
theorem sandhi_ok (l : List Joint) (a b : List Str) (hl : ∀ j ∈ l, j.1.length ≤ 1000 ∧ j.2.1.length ≤ 1000 ∧ j.2.2.length ≤ 1000) (hz : ∀ j ∈ l, 0 < wtJ j) (ha : a.length ≤ 1000000) (hb : b.length ≤ 1000000) : Fn P 72 [sl l, sl a, sl b] (sl (joinL l a b)) := by
  (refine fn_look s72_ok (by simp) (by intro k; simp only [go_sem, Nat.reduceEqDiff, ↓reduceIte, reduceCtorEq, Nat.reduceAdd, Nat.reduceMul, Int.reduceToNat, List.reduceReplicate, Nat.reduceLeDiff, Nat.reduceLT, Int.reduceLT, Int.reduceLE, Int.reduceEq]) fun S hS => cwp_sound _ _ _ _ ?_; simp (disch := omega) only [s72, go_sem, Nat.reduceEqDiff, ↓reduceIte, reduceCtorEq, Nat.reduceAdd, Nat.reduceMul, Int.reduceToNat, List.reduceReplicate, Nat.reduceLeDiff, Nat.reduceLT, Int.reduceLT, Int.reduceLE, Int.reduceEq])
  repeat' (first | (with_reducible refine in_seq ?_) | (with_reducible refine in_reg ?_) | (with_reducible refine in_block ?_) | (with_reducible refine in_cond ?_) | (with_reducible refine in_ret ?_) | (with_reducible refine in_skip ?_) | (simp (disch := omega) only [go_sem, Nat.reduceEqDiff, ↓reduceIte, reduceCtorEq, Nat.reduceAdd, Nat.reduceMul, Int.reduceToNat, List.reduceReplicate, Nat.reduceLeDiff, Nat.reduceLT, Int.reduceLT, Int.reduceLE, Int.reduceEq]) | (with_reducible refine giv_intro fun _h => ?_) | (with_reducible refine alt_intro ?_ (fun _h => ?_)) | ((first | with_reducible refine br_dec (fun _h => ?_) (fun _h => ?_) | with_reducible refine br_ndec (fun _h => ?_) (fun _h => ?_)) <;> (first | (exfalso; omega) | simp only [decide_eq_false _h] | simp only [decide_eq_true _h] | skip)) | ((first | with_reducible refine br_not (fun _h => ?_) (fun _h => ?_) | with_reducible refine br_var (fun _h => ?_) (fun _h => ?_)) <;> (try simp only [_h])) | fail)
  (refine loopC hS [0, 1, 2] (by simp only [go_sem, Nat.reduceEqDiff, ↓reduceIte, reduceCtorEq, Nat.reduceAdd, Nat.reduceMul, Int.reduceToNat, List.reduceReplicate, Nat.reduceLeDiff, Nat.reduceLT, Int.reduceLT, Int.reduceLE, Int.reduceEq]; try rfl) (fun (⟨i, k⟩ : Nat × Int) => [(7, intA k), (8, intA i)]) (fun (⟨i, k⟩ : Nat × Int) => []) (fun (⟨i, k⟩ : Nat × Int) => i ≤ l.length ∧ IsBest a b l i k) (fun (⟨i, k⟩ : Nat × Int) => l.length - i) ((0, -1)) ?h02 ?hn2 ?rd2; case hn2 => (intro s; first | rfl | (rcases s with ⟨_, _⟩; rfl) | (rcases s with ⟨_, _, _⟩; rfl) | (rcases s with ⟨_, _, _, _⟩; rfl) | (rcases s with ⟨_, _, _, _, _⟩; rfl)))
  · simp (disch := omega) only [go_sem, Nat.reduceEqDiff, ↓reduceIte, reduceCtorEq, Nat.reduceAdd, Nat.reduceMul, Int.reduceToNat, List.reduceReplicate, Nat.reduceLeDiff, Nat.reduceLT, Int.reduceLT, Int.reduceLE, Int.reduceEq]
    exact ⟨Nat.zero_le _, by omega, by omega, fun _ => rfl, fun h => by omega⟩
  rintro ⟨i, k⟩ ⟨hi, hk⟩
  replace hi : i ≤ l.length := hi
  replace hk : IsBest a b l i k := hk
  obtain ⟨k1, k2, k3, k4⟩ := hk
  by_cases hil : i < l.length
  · have hj := hl _ (nth_mem hil)
    have hzj := hz _ (nth_mem hil)
    have sb := bestJ_step a b hil
    have d1 := rEnd_ok a (nth l i).1 (by omega) (by omega)
    have d2 := rBegin_ok b (nth l i).2.1
    by_cases hk0 : k < 0
    · rw [k3 hk0] at sb
      repeat' (first | (with_reducible refine in_seq ?_) | (with_reducible refine in_reg ?_) | (with_reducible refine in_block ?_) | (with_reducible refine in_cond ?_) | (with_reducible refine in_ret ?_) | (with_reducible refine in_skip ?_) | (simp (disch := omega) only [go_sem, Nat.reduceEqDiff, ↓reduceIte, reduceCtorEq, Nat.reduceAdd, Nat.reduceMul, Int.reduceToNat, List.reduceReplicate, Nat.reduceLeDiff, Nat.reduceLT, Int.reduceLT, Int.reduceLE, Int.reduceEq]) | (with_reducible refine giv_intro fun _h => ?_) | (with_reducible refine alt_intro ?_ (fun _h => ?_)) | ((first | with_reducible refine br_dec (fun _h => ?_) (fun _h => ?_) | with_reducible refine br_ndec (fun _h => ?_) (fun _h => ?_)) <;> (first | (exfalso; omega) | simp only [decide_eq_false _h] | simp only [decide_eq_true _h] | skip)) | ((first | with_reducible refine br_not (fun _h => ?_) (fun _h => ?_) | with_reducible refine br_var (fun _h => ?_) (fun _h => ?_)) <;> (try simp only [_h])) | ((with_reducible apply call_D (d1)); (focus (simp (disch := omega) only [go_sem, Nat.reduceEqDiff, ↓reduceIte, reduceCtorEq, Nat.reduceAdd, Nat.reduceMul, Int.reduceToNat, List.reduceReplicate, Nat.reduceLeDiff, Nat.reduceLT, Int.reduceLT, Int.reduceLE, Int.reduceEq]; (try rfl); done))) | ((with_reducible apply call_D (d2)); (focus (simp (disch := omega) only [go_sem, Nat.reduceEqDiff, ↓reduceIte, reduceCtorEq, Nat.reduceAdd, Nat.reduceMul, Int.reduceToNat, List.reduceReplicate, Nat.reduceLeDiff, Nat.reduceLT, Int.reduceLT, Int.reduceLE, Int.reduceEq]; (try rfl); done))) | fail)
      · refine ⟨(i + 1, (i : Int)), ?_⟩
        dsimp only
        refine ⟨⟨by omega, by omega, by omega, by omega, fun h => by omega, fun _ => ?_⟩, rfl, by omega⟩
        rw [sb, pickJ, if_pos ⟨by simp only [Bool.and_eq_true]; exact ⟨by assumption, by assumption⟩, by simpa [zJ, wtJ] using hzj⟩]; rfl
      all_goals
        refine ⟨(i + 1, k), ?_⟩
        dsimp only
        refine ⟨⟨by omega, by omega, by omega, by omega, fun _ => ?_, fun h => by omega⟩, rfl, by omega⟩
        rw [sb, pickJ, if_neg]
        rintro ⟨g1, g2⟩
        simp only [Bool.and_eq_true] at g1
        simp_all
    · have hkl : k.toNat < l.length := by omega
      have hjk := hl _ (nth_mem hkl)
      rw [k4 (by omega)] at sb
      repeat' (first | (with_reducible refine in_seq ?_) | (with_reducible refine in_reg ?_) | (with_reducible refine in_block ?_) | (with_reducible refine in_cond ?_) | (with_reducible refine in_ret ?_) | (with_reducible refine in_skip ?_) | (simp (disch := omega) only [go_sem, Nat.reduceEqDiff, ↓reduceIte, reduceCtorEq, Nat.reduceAdd, Nat.reduceMul, Int.reduceToNat, List.reduceReplicate, Nat.reduceLeDiff, Nat.reduceLT, Int.reduceLT, Int.reduceLE, Int.reduceEq]) | (with_reducible refine giv_intro fun _h => ?_) | (with_reducible refine alt_intro ?_ (fun _h => ?_)) | ((first | with_reducible refine br_dec (fun _h => ?_) (fun _h => ?_) | with_reducible refine br_ndec (fun _h => ?_) (fun _h => ?_)) <;> (first | (exfalso; omega) | simp only [decide_eq_false _h] | simp only [decide_eq_true _h] | skip)) | ((first | with_reducible refine br_not (fun _h => ?_) (fun _h => ?_) | with_reducible refine br_var (fun _h => ?_) (fun _h => ?_)) <;> (try simp only [_h])) | ((with_reducible apply call_D (d1)); (focus (simp (disch := omega) only [go_sem, Nat.reduceEqDiff, ↓reduceIte, reduceCtorEq, Nat.reduceAdd, Nat.reduceMul, Int.reduceToNat, List.reduceReplicate, Nat.reduceLeDiff, Nat.reduceLT, Int.reduceLT, Int.reduceLE, Int.reduceEq]; (try rfl); done))) | ((with_reducible apply call_D (d2)); (focus (simp (disch := omega) only [go_sem, Nat.reduceEqDiff, ↓reduceIte, reduceCtorEq, Nat.reduceAdd, Nat.reduceMul, Int.reduceToNat, List.reduceReplicate, Nat.reduceLeDiff, Nat.reduceLT, Int.reduceLT, Int.reduceLE, Int.reduceEq]; (try rfl); done))) | fail)
      · refine ⟨(i + 1, (i : Int)), ?_⟩
        dsimp only
        refine ⟨⟨by omega, by omega, by omega, by omega, fun h => by omega, fun _ => ?_⟩, rfl, by omega⟩
        rw [sb, pickJ, if_pos ⟨by simp only [Bool.and_eq_true]; exact ⟨by assumption, by assumption⟩, by simp only [wtJ]; omega⟩]; rfl
      all_goals
        refine ⟨(i + 1, k), ?_⟩
        dsimp only
        refine ⟨⟨by omega, by omega, by omega, by omega, fun h => by omega, fun _ => ?_⟩, rfl, by omega⟩
        rw [sb, pickJ, if_neg]
        rintro ⟨g1, g2⟩
        simp only [Bool.and_eq_true] at g1
        simp only [wtJ] at g2
        first
          | omega
          | (simp_all; done)
  · have hzz : l.take i = l := List.take_of_length_le (by omega)
    rw [hzz] at k3 k4
    have fit := bestJ_fit a b hl l.length (Nat.le_refl _)
    rw [List.take_length] at fit
    obtain ⟨f1, f2, f3⟩ := fit
    by_cases hk0 : k < 0
    · have ej : joinL l a b = a ++ b := by rw [joinL, k3 hk0]; simp [zJ]
      have c1 := join_ok a b (by omega)
      rw [← ej] at c1
      repeat' (first | (with_reducible refine in_seq ?_) | (with_reducible refine in_reg ?_) | (with_reducible refine in_block ?_) | (with_reducible refine in_cond ?_) | (with_reducible refine in_ret ?_) | (with_reducible refine in_skip ?_) | (simp (disch := omega) only [go_sem, Nat.reduceEqDiff, ↓reduceIte, reduceCtorEq, Nat.reduceAdd, Nat.reduceMul, Int.reduceToNat, List.reduceReplicate, Nat.reduceLeDiff, Nat.reduceLT, Int.reduceLT, Int.reduceLE, Int.reduceEq]) | (with_reducible refine giv_intro fun _h => ?_) | (with_reducible refine alt_intro ?_ (fun _h => ?_)) | ((first | with_reducible refine br_dec (fun _h => ?_) (fun _h => ?_) | with_reducible refine br_ndec (fun _h => ?_) (fun _h => ?_)) <;> (first | (exfalso; omega) | simp only [decide_eq_false _h] | simp only [decide_eq_true _h] | skip)) | ((first | with_reducible refine br_not (fun _h => ?_) (fun _h => ?_) | with_reducible refine br_var (fun _h => ?_) (fun _h => ?_)) <;> (try simp only [_h])) | ((with_reducible apply call (c1)); (focus (simp (disch := omega) only [go_sem, Nat.reduceEqDiff, ↓reduceIte, reduceCtorEq, Nat.reduceAdd, Nat.reduceMul, Int.reduceToNat, List.reduceReplicate, Nat.reduceLeDiff, Nat.reduceLT, Int.reduceLT, Int.reduceLE, Int.reduceEq]; (try rfl); done))) | fail)
    · rw [k4 (by omega)] at f1 f2 f3
      have hkl : k.toNat < l.length := by omega
      have ej : joinL l a b = (a.take (a.length - (nth l k.toNat).1.length) ++ (nth l k.toNat).2.2) ++ b.drop (nth l k.toNat).2.1.length := by rw [joinL, k4 (by omega)]; simp
      have c1 := join_ok (a.take (a.length - (nth l k.toNat).1.length)) (nth l k.toNat).2.2 (by simp; omega)
      have c2 := join_ok (a.take (a.length - (nth l k.toNat).1.length) ++ (nth l k.toNat).2.2) (b.drop (nth l k.toNat).2.1.length) (by simp; omega)
      have e1 : ((a.length : Int) - (nth l k.toNat).1.length).toNat = a.length - (nth l k.toNat).1.length := by omega
      have e2 : List.take (b.length - (nth l k.toNat).2.1.length) (List.drop (nth l k.toNat).2.1.length b) = List.drop (nth l k.toNat).2.1.length b := List.take_of_length_le (by simp)
      rw [← ej] at c2
      repeat' (first | (with_reducible refine in_seq ?_) | (with_reducible refine in_reg ?_) | (with_reducible refine in_block ?_) | (with_reducible refine in_cond ?_) | (with_reducible refine in_ret ?_) | (with_reducible refine in_skip ?_) | (simp (disch := omega) only [go_sem, Nat.reduceEqDiff, ↓reduceIte, reduceCtorEq, Nat.reduceAdd, Nat.reduceMul, Int.reduceToNat, List.reduceReplicate, Nat.reduceLeDiff, Nat.reduceLT, Int.reduceLT, Int.reduceLE, Int.reduceEq, e1, e2]) | (with_reducible refine giv_intro fun _h => ?_) | (with_reducible refine alt_intro ?_ (fun _h => ?_)) | ((first | with_reducible refine br_dec (fun _h => ?_) (fun _h => ?_) | with_reducible refine br_ndec (fun _h => ?_) (fun _h => ?_)) <;> (first | (exfalso; omega) | simp only [decide_eq_false _h] | simp only [decide_eq_true _h] | skip)) | ((first | with_reducible refine br_not (fun _h => ?_) (fun _h => ?_) | with_reducible refine br_var (fun _h => ?_) (fun _h => ?_)) <;> (try simp only [_h])) | ((with_reducible apply call_D (c1)); (focus (simp (disch := omega) only [go_sem, Nat.reduceEqDiff, ↓reduceIte, reduceCtorEq, Nat.reduceAdd, Nat.reduceMul, Int.reduceToNat, List.reduceReplicate, Nat.reduceLeDiff, Nat.reduceLT, Int.reduceLT, Int.reduceLE, Int.reduceEq, e1, e2]; (try rfl); done))) | ((with_reducible apply call_D (c2)); (focus (simp (disch := omega) only [go_sem, Nat.reduceEqDiff, ↓reduceIte, reduceCtorEq, Nat.reduceAdd, Nat.reduceMul, Int.reduceToNat, List.reduceReplicate, Nat.reduceLeDiff, Nat.reduceLT, Int.reduceLT, Int.reduceLE, Int.reduceEq, e1, e2]; (try rfl); done))) | fail)
end Go.Proofs.Ytpfoflhhbkjngaa.Ev

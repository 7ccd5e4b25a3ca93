/- Roots and forms. -/
import Derived.Test.YtpfoflhhbkjngaaFnA
set_option linter.unusedVariables false
set_option linter.unusedSimpArgs false
namespace Go.Proofs.Ytpfoflhhbkjngaa.Ev
open Go Go.Proofs

/-- The number that a text of a form asks for, or 0. -/
def digit (s : Str) : Int := if s.size = 1 ∧ 49 ≤ byteAt s 0 ∧ byteAt s 0 ≤ 57 then byteAt s 0 - 48 else 0
theorem digit_range (x : Str) : 0 ≤ digit x ∧ digit x ≤ 9 := by unfold digit; split <;> omega

/-- ablaut/harm.asked: 1 parameters, 0 captured -/
def s57 : SC := .seq (.reg [⟨(some 2), .mv (.c (.int .i64 0)), none⟩])
  (.seq (.seq (.reg [⟨(some 3), .mv (.t 0), none⟩,
       ⟨(some 4), .lenS (.t 3), none⟩,
       ⟨(some 5), .bin .eql (.t 4) (.c (.int .i64 1)), none⟩,
       ⟨(some 6), .mv (.t 5), none⟩,
       ⟨(some 7), .mv (.t 0), some (6, true)⟩,
       ⟨(some 8), .ixs (.t 7) (.c (.int .i64 0)), some (6, true)⟩,
       ⟨(some 9), .bin .geq (.t 8) (.c (.int .u8 49)), some (6, true)⟩,
       ⟨(some 10), .pick (.t 6) (.t 9) (.c (.bool false)), none⟩,
       ⟨(some 11), .mv (.t 10), none⟩,
       ⟨(some 12), .mv (.t 0), some (11, true)⟩,
       ⟨(some 13), .ixs (.t 12) (.c (.int .i64 0)), some (11, true)⟩,
       ⟨(some 14), .bin .leq (.t 13) (.c (.int .u8 57)), some (11, true)⟩,
       ⟨(some 15), .pick (.t 11) (.t 14) (.c (.bool false)), none⟩])
    (.cond (.t 15) (.seq (.reg [⟨(some 16), .mv (.t 0), none⟩,
         ⟨(some 17), .ixs (.t 16) (.c (.int .i64 0)), none⟩,
         ⟨(some 18), .bin .sub (.t 17) (.c (.int .u8 48)), none⟩,
         ⟨(some 19), .cvi .i64 (.t 18), none⟩,
         ⟨(some 2), .mv (.t 19), none⟩])
      (.ret)) (.skip)))
   (.seq (.reg [⟨(some 2), .mv (.c (.int .i64 0)), none⟩])
    (.ret)))
theorem s57_ok : lookF Try.prog 57 = some (s57, 20, [.tmp 2]) := by kernel_rfl
theorem asked_ok (s : Str) : Fn P 57 [strA s] (intA (digit s)) := by
  (refine fn_look s57_ok (by simp) (by intro k; simp only [go_sem, Nat.reduceEqDiff, ↓reduceIte, reduceCtorEq, Nat.reduceAdd, Nat.reduceMul, Int.reduceToNat, List.reduceReplicate, Nat.reduceLeDiff, Nat.reduceLT, Int.reduceLT, Int.reduceLE, Int.reduceEq]) fun S hS => cwp_sound _ _ _ _ ?_; simp (disch := omega) only [s57, go_sem, Nat.reduceEqDiff, ↓reduceIte, reduceCtorEq, Nat.reduceAdd, Nat.reduceMul, Int.reduceToNat, List.reduceReplicate, Nat.reduceLeDiff, Nat.reduceLT, Int.reduceLT, Int.reduceLE, Int.reduceEq])
  have := byteAt_range s 0
  unfold digit
  repeat' (first | (with_reducible refine in_seq ?_) | (with_reducible refine in_reg ?_) | (with_reducible refine in_block ?_) | (with_reducible refine in_cond ?_) | (with_reducible refine in_ret ?_) | (with_reducible refine in_skip ?_) | (simp (disch := omega) only [go_sem, Nat.reduceEqDiff, ↓reduceIte, reduceCtorEq, Nat.reduceAdd, Nat.reduceMul, Int.reduceToNat, List.reduceReplicate, Nat.reduceLeDiff, Nat.reduceLT, Int.reduceLT, Int.reduceLE, Int.reduceEq]) | (with_reducible refine giv_intro fun _h => ?_) | (with_reducible refine alt_intro ?_ (fun _h => ?_)) | ((first | with_reducible refine br_dec (fun _h => ?_) (fun _h => ?_) | with_reducible refine br_ndec (fun _h => ?_) (fun _h => ?_)) <;> (first | (exfalso; omega) | simp only [decide_eq_false _h] | simp only [decide_eq_true _h] | skip)) | ((first | with_reducible refine br_not (fun _h => ?_) (fun _h => ?_) | with_reducible refine br_var (fun _h => ?_) (fun _h => ?_)) <;> (try simp only [_h])) | fail)
  all_goals (split <;> omega)

/-- ablaut/ablautref13.number: 1 parameters, 0 captured -/
def s60 : SC := .seq (.reg [⟨(some 2), .mv (.c (.int .i64 0)), none⟩])
  (.seq (.seq (.reg [⟨(some 3), .mv (.t 0), none⟩,
       ⟨(some 4), .lenS (.t 3), none⟩,
       ⟨(some 5), .bin .eql (.t 4) (.c (.int .i64 1)), none⟩,
       ⟨(some 6), .mv (.t 5), none⟩,
       ⟨(some 7), .mv (.t 0), some (6, true)⟩,
       ⟨(some 8), .ixs (.t 7) (.c (.int .i64 0)), some (6, true)⟩,
       ⟨(some 9), .bin .geq (.t 8) (.c (.int .u8 49)), some (6, true)⟩,
       ⟨(some 10), .pick (.t 6) (.t 9) (.c (.bool false)), none⟩,
       ⟨(some 11), .mv (.t 10), none⟩,
       ⟨(some 12), .mv (.t 0), some (11, true)⟩,
       ⟨(some 13), .ixs (.t 12) (.c (.int .i64 0)), some (11, true)⟩,
       ⟨(some 14), .bin .leq (.t 13) (.c (.int .u8 57)), some (11, true)⟩,
       ⟨(some 15), .pick (.t 11) (.t 14) (.c (.bool false)), none⟩])
    (.cond (.t 15) (.seq (.reg [⟨(some 16), .mv (.t 0), none⟩,
         ⟨(some 17), .ixs (.t 16) (.c (.int .i64 0)), none⟩,
         ⟨(some 18), .bin .sub (.t 17) (.c (.int .u8 48)), none⟩,
         ⟨(some 19), .cvi .i64 (.t 18), none⟩,
         ⟨(some 2), .mv (.t 19), none⟩])
      (.ret)) (.skip)))
   (.seq (.reg [⟨(some 2), .mv (.c (.int .i64 0)), none⟩])
    (.ret)))
theorem s60_ok : lookF Try.prog 60 = some (s60, 20, [.tmp 2]) := by kernel_rfl
theorem number_ok (s : Str) : Fn P 60 [strA s] (intA (digit s)) := by
  (refine fn_look s60_ok (by simp) (by intro k; simp only [go_sem, Nat.reduceEqDiff, ↓reduceIte, reduceCtorEq, Nat.reduceAdd, Nat.reduceMul, Int.reduceToNat, List.reduceReplicate, Nat.reduceLeDiff, Nat.reduceLT, Int.reduceLT, Int.reduceLE, Int.reduceEq]) fun S hS => cwp_sound _ _ _ _ ?_; simp (disch := omega) only [s60, go_sem, Nat.reduceEqDiff, ↓reduceIte, reduceCtorEq, Nat.reduceAdd, Nat.reduceMul, Int.reduceToNat, List.reduceReplicate, Nat.reduceLeDiff, Nat.reduceLT, Int.reduceLT, Int.reduceLE, Int.reduceEq])
  have := byteAt_range s 0
  unfold digit
  repeat' (first | (with_reducible refine in_seq ?_) | (with_reducible refine in_reg ?_) | (with_reducible refine in_block ?_) | (with_reducible refine in_cond ?_) | (with_reducible refine in_ret ?_) | (with_reducible refine in_skip ?_) | (simp (disch := omega) only [go_sem, Nat.reduceEqDiff, ↓reduceIte, reduceCtorEq, Nat.reduceAdd, Nat.reduceMul, Int.reduceToNat, List.reduceReplicate, Nat.reduceLeDiff, Nat.reduceLT, Int.reduceLT, Int.reduceLE, Int.reduceEq]) | (with_reducible refine giv_intro fun _h => ?_) | (with_reducible refine alt_intro ?_ (fun _h => ?_)) | ((first | with_reducible refine br_dec (fun _h => ?_) (fun _h => ?_) | with_reducible refine br_ndec (fun _h => ?_) (fun _h => ?_)) <;> (first | (exfalso; omega) | simp only [decide_eq_false _h] | simp only [decide_eq_true _h] | skip)) | ((first | with_reducible refine br_not (fun _h => ?_) (fun _h => ?_) | with_reducible refine br_var (fun _h => ?_) (fun _h => ?_)) <;> (try simp only [_h])) | fail)
  all_goals (split <;> omega)

/-- A root in a form. -/
def weaveS (root : List Str) (s : Str) : Str := if digit s = 0 then s else nth root (min (digit s) root.length - 1).toNat
def weaveL (root form : List Str) : List Str := form.map (weaveS root)

/-- ablaut/harm.woven: 2 parameters, 0 captured -/
def s54 : SC := .seq (.reg [⟨(some 4), .mv (.c (.slice none 0 0)), none⟩])
  (.seq (.reg [⟨(some 9), .mv (.t 1), none⟩,
      ⟨(some 10), .lenL (.t 9), none⟩,
      ⟨(some 11), .mksl 9 1 16 [(.string ⟨#[]⟩)] (.t 10) (.t 10), none⟩,
      ⟨(some 5), .mv (.t 11), none⟩])
   (.seq (.reg [⟨(some 12), .mv (.t 5), none⟩,
       ⟨(some 13), .mv (.t 1), none⟩,
       ⟨(some 14), .copy 1 (.t 12) (.t 13), none⟩])
    (.seq (.seq (.reg [⟨(some 15), .mv (.t 1), none⟩,
         ⟨(some 16), .lenL (.t 15), none⟩,
         ⟨(some 17), .mv (.c (.int .i64 0)), none⟩])
      (.block 0 (.loop (.seq (.reg [⟨(some 18), .bin .lss (.t 17) (.t 16), none⟩])
         (.seq (.cond (.t 18) (.skip) (.exit 0))
          (.seq (.block 1 (.seq (.reg [⟨(some 19), .mv (.t 17), none⟩,
                ⟨(some 20), .iaddr 1 (.t 15) (.t 17), none⟩,
                ⟨(some 21), .load none (.t 20), none⟩,
                ⟨(some 6), .mv (.t 19), none⟩,
                ⟨(some 7), .mv (.t 21), none⟩])
             (.seq (.reg [⟨(some 22), .mv (.t 7), none⟩,
                 ⟨(some 23), .call (.f 57) [(.t 22)], none⟩,
                 ⟨(some 8), .mv (.t 23), none⟩])
              (.seq (.reg [⟨(some 24), .mv (.t 8), none⟩,
                  ⟨(some 25), .bin .gtr (.t 24) (.c (.int .i64 0)), none⟩])
               (.cond (.t 25) (.reg [⟨(some 26), .mv (.t 5), none⟩,
                   ⟨(some 27), .mv (.t 6), none⟩,
                   ⟨(some 28), .mv (.t 0), none⟩,
                   ⟨(some 29), .mv (.t 8), none⟩,
                   ⟨(some 30), .mv (.t 0), none⟩,
                   ⟨(some 31), .lenL (.t 30), none⟩,
                   ⟨(some 32), .min (.t 29) (.t 31), none⟩,
                   ⟨(some 33), .bin .sub (.t 32) (.c (.int .i64 1)), none⟩,
                   ⟨(some 34), .iaddr 1 (.t 28) (.t 33), none⟩,
                   ⟨(some 35), .load none (.t 34), none⟩,
                   ⟨(some 36), .iaddr 1 (.t 26) (.t 27), none⟩,
                   ⟨none, .store 1 (.t 36) (.t 35), none⟩]) (.skip))))))
           (.reg [⟨(some 37), .bin .add (.t 17) (.c (.int .i64 1)), none⟩,
              ⟨(some 17), .mv (.t 37), none⟩])))))))
     (.seq (.reg [⟨(some 38), .mv (.t 5), none⟩,
         ⟨(some 4), .mv (.t 38), none⟩])
      (.ret)))))
theorem s54_ok : lookF Try.prog 54 = some (s54, 39, [.tmp 4]) := by kernel_rfl
theorem woven_ok (root form : List Str) (hr : 0 < root.length) (hf : form.length ≤ 1000000000) : Fn P 54 [sl root, sl form] (sl (weaveL root form)) := by
  (refine fn_look s54_ok (by simp) (by intro k; simp only [go_sem, Nat.reduceEqDiff, ↓reduceIte, reduceCtorEq, Nat.reduceAdd, Nat.reduceMul, Int.reduceToNat, List.reduceReplicate, Nat.reduceLeDiff, Nat.reduceLT, Int.reduceLT, Int.reduceLE, Int.reduceEq]) fun S hS => cwp_sound _ _ _ _ ?_; simp (disch := omega) only [s54, go_sem, Nat.reduceEqDiff, ↓reduceIte, reduceCtorEq, Nat.reduceAdd, Nat.reduceMul, Int.reduceToNat, List.reduceReplicate, Nat.reduceLeDiff, Nat.reduceLT, Int.reduceLT, Int.reduceLE, Int.reduceEq])
  repeat' (first | (with_reducible refine in_seq ?_) | (with_reducible refine in_reg ?_) | (with_reducible refine in_block ?_) | (with_reducible refine in_cond ?_) | (with_reducible refine in_ret ?_) | (with_reducible refine in_skip ?_) | (simp (disch := omega) only [go_sem, Nat.reduceEqDiff, ↓reduceIte, reduceCtorEq, Nat.reduceAdd, Nat.reduceMul, Int.reduceToNat, List.reduceReplicate, Nat.reduceLeDiff, Nat.reduceLT, Int.reduceLT, Int.reduceLE, Int.reduceEq]) | (with_reducible refine giv_intro fun _h => ?_) | (with_reducible refine alt_intro ?_ (fun _h => ?_)) | ((first | with_reducible refine br_dec (fun _h => ?_) (fun _h => ?_) | with_reducible refine br_ndec (fun _h => ?_) (fun _h => ?_)) <;> (first | (exfalso; omega) | simp only [decide_eq_false _h] | simp only [decide_eq_true _h] | skip)) | ((first | with_reducible refine br_not (fun _h => ?_) (fun _h => ?_) | with_reducible refine br_var (fun _h => ?_) (fun _h => ?_)) <;> (try simp only [_h])) | fail)
  (refine loopC hS [0, 5, 15, 16] (by simp only [go_sem, Nat.reduceEqDiff, ↓reduceIte, reduceCtorEq, Nat.reduceAdd, Nat.reduceMul, Int.reduceToNat, List.reduceReplicate, Nat.reduceLeDiff, Nat.reduceLT, Int.reduceLT, Int.reduceLE, Int.reduceEq]; try rfl) (fun (⟨i, out⟩ : Nat × List Str) => [(17, intA i)]) (fun (⟨i, out⟩ : Nat × List Str) => [rowO 9 out]) (fun (⟨i, out⟩ : Nat × List Str) => i ≤ form.length ∧ out.length = form.length ∧ out = weaveL root (form.take i) ++ form.drop i) (fun (⟨i, out⟩ : Nat × List Str) => form.length - i) ((0, form)) ?h01 ?hn1 ?rd1; case hn1 => (intro s; first | rfl | (rcases s with ⟨_, _⟩; rfl) | (rcases s with ⟨_, _, _⟩; rfl) | (rcases s with ⟨_, _, _, _⟩; rfl) | (rcases s with ⟨_, _, _, _, _⟩; rfl)))
  · repeat' (first | (with_reducible refine in_seq ?_) | (with_reducible refine in_reg ?_) | (with_reducible refine in_block ?_) | (with_reducible refine in_cond ?_) | (with_reducible refine in_ret ?_) | (with_reducible refine in_skip ?_) | (simp (disch := omega) only [go_sem, Nat.reduceEqDiff, ↓reduceIte, reduceCtorEq, Nat.reduceAdd, Nat.reduceMul, Int.reduceToNat, List.reduceReplicate, Nat.reduceLeDiff, Nat.reduceLT, Int.reduceLT, Int.reduceLE, Int.reduceEq]) | (with_reducible refine giv_intro fun _h => ?_) | (with_reducible refine alt_intro ?_ (fun _h => ?_)) | ((first | with_reducible refine br_dec (fun _h => ?_) (fun _h => ?_) | with_reducible refine br_ndec (fun _h => ?_) (fun _h => ?_)) <;> (first | (exfalso; omega) | simp only [decide_eq_false _h] | simp only [decide_eq_true _h] | skip)) | ((first | with_reducible refine br_not (fun _h => ?_) (fun _h => ?_) | with_reducible refine br_var (fun _h => ?_) (fun _h => ?_)) <;> (try simp only [_h])) | fail)
    simp [weaveL]
  rintro ⟨i, out⟩ ⟨hi, hl, ho⟩
  have hd := digit_range (nth form i)
  have step : i < form.length → weaveL root (form.take (i + 1)) = weaveL root (form.take i) ++ [weaveS root (nth form i)] := fun h => by
    rw [List.take_add_one, nth_get? h]; simp [weaveL]
  repeat' (first | (with_reducible refine in_seq ?_) | (with_reducible refine in_reg ?_) | (with_reducible refine in_block ?_) | (with_reducible refine in_cond ?_) | (with_reducible refine in_ret ?_) | (with_reducible refine in_skip ?_) | (simp (disch := omega) only [go_sem, Nat.reduceEqDiff, ↓reduceIte, reduceCtorEq, Nat.reduceAdd, Nat.reduceMul, Int.reduceToNat, List.reduceReplicate, Nat.reduceLeDiff, Nat.reduceLT, Int.reduceLT, Int.reduceLE, Int.reduceEq]) | (with_reducible refine giv_intro fun _h => ?_) | (with_reducible refine alt_intro ?_ (fun _h => ?_)) | ((first | with_reducible refine br_dec (fun _h => ?_) (fun _h => ?_) | with_reducible refine br_ndec (fun _h => ?_) (fun _h => ?_)) <;> (first | (exfalso; omega) | simp only [decide_eq_false _h] | simp only [decide_eq_true _h] | skip)) | ((first | with_reducible refine br_not (fun _h => ?_) (fun _h => ?_) | with_reducible refine br_var (fun _h => ?_) (fun _h => ?_)) <;> (try simp only [_h])) | ((with_reducible apply call (asked_ok _)); (focus (simp (disch := omega) only [go_sem, Nat.reduceEqDiff, ↓reduceIte, reduceCtorEq, Nat.reduceAdd, Nat.reduceMul, Int.reduceToNat, List.reduceReplicate, Nat.reduceLeDiff, Nat.reduceLT, Int.reduceLT, Int.reduceLE, Int.reduceEq]; (try rfl); done))) | fail)
  · refine ⟨(i + 1, _), ⟨by omega, by omega, ?_, ?_⟩, by omega, rfl⟩
    · simp [hl]; omega
    · subst ho
      rw [step (by omega), nth_drop (l := form) (i := i) (by omega), weaveS, if_neg (by omega)]
      have hl2 : (weaveL root (form.take i)).length = i := by simp [weaveL]; omega
      simp [List.take_append, List.drop_append, hl2]
  · refine ⟨(i + 1, _), ⟨by omega, by omega, hl, ?_⟩, by omega, rfl⟩
    rw [ho, step (by omega), nth_drop (l := form) (i := i) (by omega), weaveS, if_pos (by omega)]
    simp
  · rw [ho, drop_end (by omega), List.take_of_length_le (by omega), List.append_nil]

/-- ablaut/ablautref13.weave: 2 parameters, 0 captured -/
def s56 : SC := .seq (.reg [⟨(some 4), .mv (.c (.slice none 0 0)), none⟩])
  (.seq (.reg [⟨(some 5), .mv (.c (.slice none 0 0)), none⟩])
   (.seq (.seq (.reg [⟨(some 6), .mv (.c (.int .i64 0)), none⟩])
     (.block 0 (.loop (.seq (.seq (.reg [⟨(some 8), .mv (.t 6), none⟩,
            ⟨(some 9), .mv (.t 1), none⟩,
            ⟨(some 10), .lenL (.t 9), none⟩,
            ⟨(some 11), .bin .lss (.t 8) (.t 10), none⟩])
         (.cond (.t 11) (.skip) (.exit 0)))
        (.seq (.block 1 (.seq (.reg [⟨(some 14), .mv (.t 1), none⟩,
              ⟨(some 15), .mv (.t 6), none⟩,
              ⟨(some 16), .iaddr 1 (.t 14) (.t 15), none⟩,
              ⟨(some 17), .load none (.t 16), none⟩,
              ⟨(some 18), .call (.f 60) [(.t 17)], none⟩,
              ⟨(some 7), .mv (.t 18), none⟩])
           (.seq (.reg [⟨(some 19), .mv (.t 7), none⟩,
               ⟨(some 20), .bin .eql (.t 19) (.c (.int .i64 0)), none⟩])
            (.cond (.t 20) (.reg [⟨(some 21), .mv (.t 5), none⟩,
                ⟨(some 22), .mv (.t 1), none⟩,
                ⟨(some 23), .mv (.t 6), none⟩,
                ⟨(some 24), .iaddr 1 (.t 22) (.t 23), none⟩,
                ⟨(some 25), .load none (.t 24), none⟩,
                ⟨(some 26), .buildSl 9 1 1 [(.string ⟨#[]⟩)] [(0, 1, (.t 25))], none⟩,
                ⟨(some 27), .app 9 1 16 (.t 21) (.t 26), none⟩,
                ⟨(some 5), .mv (.t 27), none⟩]) (.reg [⟨(some 28), .mv (.t 5), none⟩,
                ⟨(some 29), .mv (.t 0), none⟩,
                ⟨(some 30), .mv (.t 7), none⟩,
                ⟨(some 31), .mv (.t 0), none⟩,
                ⟨(some 32), .lenL (.t 31), none⟩,
                ⟨(some 33), .min (.t 30) (.t 32), none⟩,
                ⟨(some 34), .bin .sub (.t 33) (.c (.int .i64 1)), none⟩,
                ⟨(some 35), .iaddr 1 (.t 29) (.t 34), none⟩,
                ⟨(some 36), .load none (.t 35), none⟩,
                ⟨(some 37), .buildSl 9 1 1 [(.string ⟨#[]⟩)] [(0, 1, (.t 36))], none⟩,
                ⟨(some 38), .app 9 1 16 (.t 28) (.t 37), none⟩,
                ⟨(some 5), .mv (.t 38), none⟩])))))
         (.reg [⟨(some 12), .mv (.t 6), none⟩,
            ⟨(some 13), .bin .add (.t 12) (.c (.int .i64 1)), none⟩,
            ⟨(some 6), .mv (.t 13), none⟩]))))))
    (.seq (.reg [⟨(some 39), .mv (.t 5), none⟩,
        ⟨(some 4), .mv (.t 39), none⟩])
     (.ret))))
theorem s56_ok : lookF Try.prog 56 = some (s56, 40, [.tmp 4]) := by kernel_rfl
theorem weave_ok (root form : List Str) (hr : 0 < root.length) (hf : form.length ≤ 1000000000) : Fn P 56 [sl root, sl form] (sl (weaveL root form)) := by
  (refine fn_look s56_ok (by simp) (by intro k; simp only [go_sem, Nat.reduceEqDiff, ↓reduceIte, reduceCtorEq, Nat.reduceAdd, Nat.reduceMul, Int.reduceToNat, List.reduceReplicate, Nat.reduceLeDiff, Nat.reduceLT, Int.reduceLT, Int.reduceLE, Int.reduceEq]) fun S hS => cwp_sound _ _ _ _ ?_; simp (disch := omega) only [s56, go_sem, Nat.reduceEqDiff, ↓reduceIte, reduceCtorEq, Nat.reduceAdd, Nat.reduceMul, Int.reduceToNat, List.reduceReplicate, Nat.reduceLeDiff, Nat.reduceLT, Int.reduceLT, Int.reduceLE, Int.reduceEq])
  refine nil_row 5 9 1 (by simp only [go_sem, Nat.reduceEqDiff, ↓reduceIte, reduceCtorEq, Nat.reduceAdd, Nat.reduceMul, Int.reduceToNat, List.reduceReplicate, Nat.reduceLeDiff, Nat.reduceLT, Int.reduceLT, Int.reduceLE, Int.reduceEq]) ?_
  (refine loopC hS [0, 1] (by simp only [go_sem, Nat.reduceEqDiff, ↓reduceIte, reduceCtorEq, Nat.reduceAdd, Nat.reduceMul, Int.reduceToNat, List.reduceReplicate, Nat.reduceLeDiff, Nat.reduceLT, Int.reduceLT, Int.reduceLE, Int.reduceEq]; try rfl) (fun (⟨i, out⟩ : Nat × List Str) => [(5, own S 0 out), (6, intA i)]) (fun (⟨i, out⟩ : Nat × List Str) => [rowO 9 out]) (fun (⟨i, out⟩ : Nat × List Str) => i ≤ form.length ∧ out.length = i ∧ out = weaveL root (form.take i)) (fun (⟨i, out⟩ : Nat × List Str) => form.length - i) ((0, [])) ?h02 ?hn2 ?rd2; case hn2 => (intro s; first | rfl | (rcases s with ⟨_, _⟩; rfl) | (rcases s with ⟨_, _, _⟩; rfl) | (rcases s with ⟨_, _, _, _⟩; rfl) | (rcases s with ⟨_, _, _, _, _⟩; rfl)))
  · repeat' (first | (with_reducible refine in_seq ?_) | (with_reducible refine in_reg ?_) | (with_reducible refine in_block ?_) | (with_reducible refine in_cond ?_) | (with_reducible refine in_ret ?_) | (with_reducible refine in_skip ?_) | (simp (disch := omega) only [go_sem, Nat.reduceEqDiff, ↓reduceIte, reduceCtorEq, Nat.reduceAdd, Nat.reduceMul, Int.reduceToNat, List.reduceReplicate, Nat.reduceLeDiff, Nat.reduceLT, Int.reduceLT, Int.reduceLE, Int.reduceEq]) | (with_reducible refine giv_intro fun _h => ?_) | (with_reducible refine alt_intro ?_ (fun _h => ?_)) | ((first | with_reducible refine br_dec (fun _h => ?_) (fun _h => ?_) | with_reducible refine br_ndec (fun _h => ?_) (fun _h => ?_)) <;> (first | (exfalso; omega) | simp only [decide_eq_false _h] | simp only [decide_eq_true _h] | skip)) | ((first | with_reducible refine br_not (fun _h => ?_) (fun _h => ?_) | with_reducible refine br_var (fun _h => ?_) (fun _h => ?_)) <;> (try simp only [_h])) | fail)
    simp [weaveL]
  rintro ⟨i, out⟩ ⟨hi, hl, ho⟩
  have hd := digit_range (nth form i)
  have step : i < form.length → weaveL root (form.take (i + 1)) = weaveL root (form.take i) ++ [weaveS root (nth form i)] := fun h => by
    rw [List.take_add_one, nth_get? h]; simp [weaveL]
  repeat' (first | (with_reducible refine in_seq ?_) | (with_reducible refine in_reg ?_) | (with_reducible refine in_block ?_) | (with_reducible refine in_cond ?_) | (with_reducible refine in_ret ?_) | (with_reducible refine in_skip ?_) | (simp (disch := omega) only [go_sem, Nat.reduceEqDiff, ↓reduceIte, reduceCtorEq, Nat.reduceAdd, Nat.reduceMul, Int.reduceToNat, List.reduceReplicate, Nat.reduceLeDiff, Nat.reduceLT, Int.reduceLT, Int.reduceLE, Int.reduceEq]) | (with_reducible refine giv_intro fun _h => ?_) | (with_reducible refine alt_intro ?_ (fun _h => ?_)) | ((first | with_reducible refine br_dec (fun _h => ?_) (fun _h => ?_) | with_reducible refine br_ndec (fun _h => ?_) (fun _h => ?_)) <;> (first | (exfalso; omega) | simp only [decide_eq_false _h] | simp only [decide_eq_true _h] | skip)) | ((first | with_reducible refine br_not (fun _h => ?_) (fun _h => ?_) | with_reducible refine br_var (fun _h => ?_) (fun _h => ?_)) <;> (try simp only [_h])) | ((with_reducible apply call (number_ok _)); (focus (simp (disch := omega) only [go_sem, Nat.reduceEqDiff, ↓reduceIte, reduceCtorEq, Nat.reduceAdd, Nat.reduceMul, Int.reduceToNat, List.reduceReplicate, Nat.reduceLeDiff, Nat.reduceLT, Int.reduceLT, Int.reduceLE, Int.reduceEq]; (try rfl); done))) | fail)
  · refine ⟨(i + 1, _), ⟨by omega, by omega, ?_, ?_⟩, ⟨?_, by omega⟩, rfl⟩
    · simp [hl]
    · rw [ho, step (by omega), weaveS, if_pos (by omega)]
    · simp
  · refine ⟨(i + 1, _), ⟨by omega, by omega, ?_, ?_⟩, ⟨?_, by omega⟩, rfl⟩
    · simp [hl]
    · rw [ho, step (by omega), weaveS, if_neg (by omega)]
    · simp
  · rw [ho, List.take_of_length_le (by omega)]

/-- What Weave answers: the error, the word. -/
def weaveE (root form : List Str) : Int := if wordsErr [root, form] ≠ 0 then wordsErr [root, form] else if root.length = 0 then 1 else 0
def weaveV (root form : List Str) : List Str := if weaveE root form = 0 then weaveL root form else []
theorem wordErr_len {l : List Str} (hl : wordErr l = 0) : l.length ≤ 60 := by
  unfold wordErr at hl
  split at hl
  · omega
  · rename_i hn; omega
theorem wordsErr_two {a b : List Str} : wordsErr [a, b] = 0 ↔ wordErr a = 0 ∧ wordErr b = 0 := by
  simp only [wordsErr]
  by_cases h : wordErr a = 0 <;> by_cases h2 : wordErr b = 0 <;> simp [h, h2]

/-- ablaut/harm.Weave: 2 parameters, 0 captured -/
def s18 : SC := .seq (.reg [⟨(some 4), .mv (.c (.slice none 0 0)), none⟩,
     ⟨(some 5), .mv (.c (.int .i64 0)), none⟩])
  (.seq (.seq (.reg [⟨(some 7), .mv (.t 0), none⟩,
       ⟨(some 8), .mv (.t 1), none⟩,
       ⟨(some 9), .buildSl 22 1 2 [(.slice none 0 0)] [(0, 1, (.t 7)), (1, 1, (.t 8))], none⟩,
       ⟨(some 10), .call (.f 53) [(.t 9)], none⟩,
       ⟨(some 6), .mv (.t 10), none⟩])
    (.seq (.reg [⟨(some 11), .mv (.t 6), none⟩,
        ⟨(some 12), .bin .neq (.t 11) (.c (.int .i64 0)), none⟩])
     (.cond (.t 12) (.seq (.reg [⟨(some 13), .mv (.t 6), none⟩,
          ⟨(some 4), .mv (.c (.slice none 0 0)), none⟩,
          ⟨(some 5), .mv (.t 13), none⟩])
       (.ret)) (.skip))))
   (.seq (.seq (.reg [⟨(some 14), .mv (.t 0), none⟩,
        ⟨(some 15), .lenL (.t 14), none⟩,
        ⟨(some 16), .bin .eql (.t 15) (.c (.int .i64 0)), none⟩])
     (.cond (.t 16) (.seq (.reg [⟨(some 4), .mv (.c (.slice none 0 0)), none⟩,
          ⟨(some 5), .mv (.c (.int .i64 1)), none⟩])
       (.ret)) (.skip)))
    (.seq (.reg [⟨(some 17), .mv (.t 0), none⟩,
        ⟨(some 18), .mv (.t 1), none⟩,
        ⟨(some 19), .call (.f 54) [(.t 17), (.t 18)], none⟩,
        ⟨(some 4), .mv (.t 19), none⟩,
        ⟨(some 5), .mv (.c (.int .i64 0)), none⟩])
     (.ret))))
theorem s18_ok : lookF Try.prog 18 = some (s18, 20, [.tmp 4, .tmp 5]) := by kernel_rfl
theorem Weave_ok (root form : List Str) : Fn P 18 [sl root, sl form] (.tup [sl (weaveV root form), intA (weaveE root form)]) := by
  (refine fn_look s18_ok (by simp) (by intro k; simp only [go_sem, Nat.reduceEqDiff, ↓reduceIte, reduceCtorEq, Nat.reduceAdd, Nat.reduceMul, Int.reduceToNat, List.reduceReplicate, Nat.reduceLeDiff, Nat.reduceLT, Int.reduceLT, Int.reduceLE, Int.reduceEq]) fun S hS => cwp_sound _ _ _ _ ?_; simp (disch := omega) only [s18, go_sem, Nat.reduceEqDiff, ↓reduceIte, reduceCtorEq, Nat.reduceAdd, Nat.reduceMul, Int.reduceToNat, List.reduceReplicate, Nat.reduceLeDiff, Nat.reduceLT, Int.reduceLT, Int.reduceLE, Int.reduceEq])
  repeat' (first | (with_reducible refine in_seq ?_) | (with_reducible refine in_reg ?_) | (with_reducible refine in_block ?_) | (with_reducible refine in_cond ?_) | (with_reducible refine in_ret ?_) | (with_reducible refine in_skip ?_) | (simp (disch := omega) only [go_sem, Nat.reduceEqDiff, ↓reduceIte, reduceCtorEq, Nat.reduceAdd, Nat.reduceMul, Int.reduceToNat, List.reduceReplicate, Nat.reduceLeDiff, Nat.reduceLT, Int.reduceLT, Int.reduceLE, Int.reduceEq]) | (with_reducible refine giv_intro fun _h => ?_) | (with_reducible refine alt_intro ?_ (fun _h => ?_)) | ((first | with_reducible refine br_dec (fun _h => ?_) (fun _h => ?_) | with_reducible refine br_ndec (fun _h => ?_) (fun _h => ?_)) <;> (first | (exfalso; omega) | simp only [decide_eq_false _h] | simp only [decide_eq_true _h] | skip)) | ((first | with_reducible refine br_not (fun _h => ?_) (fun _h => ?_) | with_reducible refine br_var (fun _h => ?_) (fun _h => ?_)) <;> (try simp only [_h])) | ((with_reducible apply call_lend (words_ok [root, form])); (focus (simp (disch := omega) only [go_sem, Nat.reduceEqDiff, ↓reduceIte, reduceCtorEq, Nat.reduceAdd, Nat.reduceMul, Int.reduceToNat, List.reduceReplicate, Nat.reduceLeDiff, Nat.reduceLT, Int.reduceLT, Int.reduceLE, Int.reduceEq]; (try rfl); done)); (focus rfl)) | ((with_reducible apply call (woven_ok root form (by omega) (by have := (wordErr_len (wordsErr_two.1 (by assumption)).2); omega))); (focus (simp (disch := omega) only [go_sem, Nat.reduceEqDiff, ↓reduceIte, reduceCtorEq, Nat.reduceAdd, Nat.reduceMul, Int.reduceToNat, List.reduceReplicate, Nat.reduceLeDiff, Nat.reduceLT, Int.reduceLT, Int.reduceLE, Int.reduceEq]; (try rfl); done))) | fail)
  · have e : weaveE root form = wordsErr [root, form] := by rw [weaveE, if_pos _h]
    rw [weaveV, e, if_neg _h]; rfl
  · rename_i h1 h2
    have e : weaveE root form = 1 := by rw [weaveE, if_neg (by omega), if_pos (by omega)]
    rw [weaveV, e]; rfl
  · rename_i h1 h2
    have e : weaveE root form = 0 := by rw [weaveE, if_neg (by omega), if_neg (by omega)]
    rw [weaveV, e]; rfl

/-- ablaut/ablautref13.Weave: 2 parameters, 0 captured -/
def s19 : SC := .seq (.reg [⟨(some 4), .mv (.c (.slice none 0 0)), none⟩,
     ⟨(some 5), .mv (.c (.int .i64 0)), none⟩])
  (.seq (.seq (.reg [⟨(some 7), .mv (.t 0), none⟩,
       ⟨(some 8), .mv (.t 1), none⟩,
       ⟨(some 9), .buildSl 22 1 2 [(.slice none 0 0)] [(0, 1, (.t 7)), (1, 1, (.t 8))], none⟩,
       ⟨(some 10), .call (.f 55) [(.t 9)], none⟩,
       ⟨(some 6), .mv (.t 10), none⟩])
    (.seq (.reg [⟨(some 11), .mv (.t 6), none⟩,
        ⟨(some 12), .bin .neq (.t 11) (.c (.int .i64 0)), none⟩])
     (.cond (.t 12) (.seq (.reg [⟨(some 13), .mv (.t 6), none⟩,
          ⟨(some 4), .mv (.c (.slice none 0 0)), none⟩,
          ⟨(some 5), .mv (.t 13), none⟩])
       (.ret)) (.skip))))
   (.seq (.seq (.reg [⟨(some 14), .mv (.t 0), none⟩,
        ⟨(some 15), .lenL (.t 14), none⟩,
        ⟨(some 16), .bin .eql (.t 15) (.c (.int .i64 0)), none⟩])
     (.cond (.t 16) (.seq (.reg [⟨(some 4), .mv (.c (.slice none 0 0)), none⟩,
          ⟨(some 5), .mv (.c (.int .i64 1)), none⟩])
       (.ret)) (.skip)))
    (.seq (.reg [⟨(some 17), .mv (.t 0), none⟩,
        ⟨(some 18), .mv (.t 1), none⟩,
        ⟨(some 19), .call (.f 56) [(.t 17), (.t 18)], none⟩,
        ⟨(some 4), .mv (.t 19), none⟩,
        ⟨(some 5), .mv (.c (.int .i64 0)), none⟩])
     (.ret))))
theorem s19_ok : lookF Try.prog 19 = some (s19, 20, [.tmp 4, .tmp 5]) := by kernel_rfl
theorem refWeave_ok (root form : List Str) : Fn P 19 [sl root, sl form] (.tup [sl (weaveV root form), intA (weaveE root form)]) := by
  (refine fn_look s19_ok (by simp) (by intro k; simp only [go_sem, Nat.reduceEqDiff, ↓reduceIte, reduceCtorEq, Nat.reduceAdd, Nat.reduceMul, Int.reduceToNat, List.reduceReplicate, Nat.reduceLeDiff, Nat.reduceLT, Int.reduceLT, Int.reduceLE, Int.reduceEq]) fun S hS => cwp_sound _ _ _ _ ?_; simp (disch := omega) only [s19, go_sem, Nat.reduceEqDiff, ↓reduceIte, reduceCtorEq, Nat.reduceAdd, Nat.reduceMul, Int.reduceToNat, List.reduceReplicate, Nat.reduceLeDiff, Nat.reduceLT, Int.reduceLT, Int.reduceLE, Int.reduceEq])
  repeat' (first | (with_reducible refine in_seq ?_) | (with_reducible refine in_reg ?_) | (with_reducible refine in_block ?_) | (with_reducible refine in_cond ?_) | (with_reducible refine in_ret ?_) | (with_reducible refine in_skip ?_) | (simp (disch := omega) only [go_sem, Nat.reduceEqDiff, ↓reduceIte, reduceCtorEq, Nat.reduceAdd, Nat.reduceMul, Int.reduceToNat, List.reduceReplicate, Nat.reduceLeDiff, Nat.reduceLT, Int.reduceLT, Int.reduceLE, Int.reduceEq]) | (with_reducible refine giv_intro fun _h => ?_) | (with_reducible refine alt_intro ?_ (fun _h => ?_)) | ((first | with_reducible refine br_dec (fun _h => ?_) (fun _h => ?_) | with_reducible refine br_ndec (fun _h => ?_) (fun _h => ?_)) <;> (first | (exfalso; omega) | simp only [decide_eq_false _h] | simp only [decide_eq_true _h] | skip)) | ((first | with_reducible refine br_not (fun _h => ?_) (fun _h => ?_) | with_reducible refine br_var (fun _h => ?_) (fun _h => ?_)) <;> (try simp only [_h])) | ((with_reducible apply call_lend (Words_ok [root, form])); (focus (simp (disch := omega) only [go_sem, Nat.reduceEqDiff, ↓reduceIte, reduceCtorEq, Nat.reduceAdd, Nat.reduceMul, Int.reduceToNat, List.reduceReplicate, Nat.reduceLeDiff, Nat.reduceLT, Int.reduceLT, Int.reduceLE, Int.reduceEq]; (try rfl); done)); (focus rfl)) | ((with_reducible apply call (weave_ok root form (by omega) (by have := (wordErr_len (wordsErr_two.1 (by assumption)).2); omega))); (focus (simp (disch := omega) only [go_sem, Nat.reduceEqDiff, ↓reduceIte, reduceCtorEq, Nat.reduceAdd, Nat.reduceMul, Int.reduceToNat, List.reduceReplicate, Nat.reduceLeDiff, Nat.reduceLT, Int.reduceLT, Int.reduceLE, Int.reduceEq]; (try rfl); done))) | fail)
  · have e : weaveE root form = wordsErr [root, form] := by rw [weaveE, if_pos _h]
    rw [weaveV, e, if_neg _h]; rfl
  · rename_i h1 h2
    have e : weaveE root form = 1 := by rw [weaveE, if_neg (by omega), if_pos (by omega)]
    rw [weaveV, e]; rfl
  · rename_i h1 h2
    have e : weaveE root form = 0 := by rw [weaveE, if_neg (by omega), if_neg (by omega)]
    rw [weaveV, e]; rfl

/-- ablaut/ablautlaw13.known: 0 parameters, 0 captured -/
def s17 : SC := .seq (.reg [⟨(some 0), .mv (.c (.bool false)), none⟩])
  (.seq (.reg [⟨(some 4), .buildSl 9 1 3 [(.string ⟨#[]⟩)] [(0, 1, (.c (.string ⟨#[107]⟩))), (1, 1, (.c (.string ⟨#[116]⟩))), (2, 1, (.c (.string ⟨#[98]⟩)))], none⟩,
      ⟨(some 5), .buildSl 9 1 5 [(.string ⟨#[]⟩)] [(0, 1, (.c (.string ⟨#[49]⟩))), (1, 1, (.c (.string ⟨#[97]⟩))), (2, 1, (.c (.string ⟨#[50]⟩))), (3, 1, (.c (.string ⟨#[97]⟩))), (4, 1, (.c (.string ⟨#[51]⟩)))], none⟩,
      ⟨(some 6), .call (.f 18) [(.t 4), (.t 5)], none⟩,
      ⟨(some 3), .mv (.t 6), none⟩,
      ⟨(some 7), .ext (.t 3) 0, none⟩,
      ⟨(some 8), .ext (.t 3) 1, none⟩,
      ⟨(some 1), .mv (.t 7), none⟩,
      ⟨(some 2), .mv (.t 8), none⟩])
   (.seq (.reg [⟨(some 9), .mv (.t 2), none⟩,
       ⟨(some 10), .bin .eql (.t 9) (.c (.int .i64 0)), none⟩,
       ⟨(some 11), .mv (.t 10), none⟩,
       ⟨(some 12), .mv (.t 1), some (11, true)⟩,
       ⟨(some 13), .lenL (.t 12), some (11, true)⟩,
       ⟨(some 14), .bin .eql (.t 13) (.c (.int .i64 5)), some (11, true)⟩,
       ⟨(some 15), .pick (.t 11) (.t 14) (.c (.bool false)), none⟩,
       ⟨(some 16), .mv (.t 15), none⟩,
       ⟨(some 17), .mv (.t 1), some (16, true)⟩,
       ⟨(some 18), .iaddr 1 (.t 17) (.c (.int .i64 0)), some (16, true)⟩,
       ⟨(some 19), .load none (.t 18), some (16, true)⟩,
       ⟨(some 20), .bin .eql (.t 19) (.c (.string ⟨#[107]⟩)), some (16, true)⟩,
       ⟨(some 21), .pick (.t 16) (.t 20) (.c (.bool false)), none⟩,
       ⟨(some 22), .mv (.t 21), none⟩,
       ⟨(some 23), .mv (.t 1), some (22, true)⟩,
       ⟨(some 24), .iaddr 1 (.t 23) (.c (.int .i64 2)), some (22, true)⟩,
       ⟨(some 25), .load none (.t 24), some (22, true)⟩,
       ⟨(some 26), .bin .eql (.t 25) (.c (.string ⟨#[116]⟩)), some (22, true)⟩,
       ⟨(some 27), .pick (.t 22) (.t 26) (.c (.bool false)), none⟩,
       ⟨(some 28), .mv (.t 27), none⟩,
       ⟨(some 29), .mv (.t 1), some (28, true)⟩,
       ⟨(some 30), .iaddr 1 (.t 29) (.c (.int .i64 3)), some (28, true)⟩,
       ⟨(some 31), .load none (.t 30), some (28, true)⟩,
       ⟨(some 32), .bin .eql (.t 31) (.c (.string ⟨#[97]⟩)), some (28, true)⟩,
       ⟨(some 33), .pick (.t 28) (.t 32) (.c (.bool false)), none⟩,
       ⟨(some 0), .mv (.t 33), none⟩])
    (.ret)))
theorem s17_ok : lookF Try.prog 17 = some (s17, 34, [.tmp 0]) := by kernel_rfl
theorem known_ok : Fn P 17 [] (boolA true) := by
  have h : weaveV [⟨#[107]⟩, ⟨#[116]⟩, ⟨#[98]⟩] [⟨#[49]⟩, ⟨#[97]⟩, ⟨#[50]⟩, ⟨#[97]⟩, ⟨#[51]⟩] = [⟨#[107]⟩, ⟨#[97]⟩, ⟨#[116]⟩, ⟨#[97]⟩, ⟨#[98]⟩] := by decide
  have h2 : weaveE [⟨#[107]⟩, ⟨#[116]⟩, ⟨#[98]⟩] [⟨#[49]⟩, ⟨#[97]⟩, ⟨#[50]⟩, ⟨#[97]⟩, ⟨#[51]⟩] = 0 := by decide
  (refine fn_look s17_ok (by simp) (by intro k; simp only [go_sem, Nat.reduceEqDiff, ↓reduceIte, reduceCtorEq, Nat.reduceAdd, Nat.reduceMul, Int.reduceToNat, List.reduceReplicate, Nat.reduceLeDiff, Nat.reduceLT, Int.reduceLT, Int.reduceLE, Int.reduceEq]) fun S hS => cwp_sound _ _ _ _ ?_; simp (disch := omega) only [s17, go_sem, Nat.reduceEqDiff, ↓reduceIte, reduceCtorEq, Nat.reduceAdd, Nat.reduceMul, Int.reduceToNat, List.reduceReplicate, Nat.reduceLeDiff, Nat.reduceLT, Int.reduceLT, Int.reduceLE, Int.reduceEq])
  repeat' (first | (with_reducible refine in_seq ?_) | (with_reducible refine in_reg ?_) | (with_reducible refine in_block ?_) | (with_reducible refine in_cond ?_) | (with_reducible refine in_ret ?_) | (with_reducible refine in_skip ?_) | (simp (disch := omega) only [go_sem, Nat.reduceEqDiff, ↓reduceIte, reduceCtorEq, Nat.reduceAdd, Nat.reduceMul, Int.reduceToNat, List.reduceReplicate, Nat.reduceLeDiff, Nat.reduceLT, Int.reduceLT, Int.reduceLE, Int.reduceEq, h, h2]) | (with_reducible refine giv_intro fun _h => ?_) | (with_reducible refine alt_intro ?_ (fun _h => ?_)) | ((first | with_reducible refine br_dec (fun _h => ?_) (fun _h => ?_) | with_reducible refine br_ndec (fun _h => ?_) (fun _h => ?_)) <;> (first | (exfalso; omega) | simp only [decide_eq_false _h] | simp only [decide_eq_true _h] | skip)) | ((first | with_reducible refine br_not (fun _h => ?_) (fun _h => ?_) | with_reducible refine br_var (fun _h => ?_) (fun _h => ?_)) <;> (try simp only [_h])) | ((with_reducible apply call_give (Weave_ok [⟨#[107]⟩, ⟨#[116]⟩, ⟨#[98]⟩] [⟨#[49]⟩, ⟨#[97]⟩, ⟨#[50]⟩, ⟨#[97]⟩, ⟨#[51]⟩])); (focus (simp (disch := omega) only [go_sem, Nat.reduceEqDiff, ↓reduceIte, reduceCtorEq, Nat.reduceAdd, Nat.reduceMul, Int.reduceToNat, List.reduceReplicate, Nat.reduceLeDiff, Nat.reduceLT, Int.reduceLT, Int.reduceLE, Int.reduceEq, h, h2]; (try rfl); done))) | fail)

/-! ### the guard -/
theorem int_bel (r : AV) (h : ∃ n : Int, r = intA n) (k : Nat) : r.bel k := by obtain ⟨n, rfl⟩ := h; simp only [go_sem, Nat.reduceEqDiff, ↓reduceIte, reduceCtorEq, Nat.reduceAdd, Nat.reduceMul, Int.reduceToNat, List.reduceReplicate, Nat.reduceLeDiff, Nat.reduceLT, Int.reduceLT, Int.reduceLE, Int.reduceEq]
/-- ablaut/ablautlaw13.bytes: 1 parameters, 0 captured -/
def s16 : SC := .seq (.reg [⟨(some 2), .mv (.c (.int .i64 0)), none⟩])
  (.seq (.reg [⟨(some 3), .mv (.c (.int .i64 0)), none⟩])
   (.seq (.seq (.reg [⟨(some 4), .mv (.c (.int .i64 0)), none⟩])
     (.block 0 (.loop (.seq (.seq (.reg [⟨(some 6), .mv (.t 4), none⟩,
            ⟨(some 7), .mv (.t 0), none⟩,
            ⟨(some 8), .lenL (.t 7), none⟩,
            ⟨(some 9), .bin .lss (.t 6) (.t 8), none⟩])
         (.cond (.t 9) (.skip) (.exit 0)))
        (.seq (.block 1 (.seq (.reg [⟨(some 12), .mv (.t 3), none⟩,
              ⟨(some 13), .mv (.t 0), none⟩,
              ⟨(some 14), .mv (.t 4), none⟩,
              ⟨(some 15), .iaddr 1 (.t 13) (.t 14), none⟩,
              ⟨(some 16), .load none (.t 15), none⟩,
              ⟨(some 17), .lenL (.t 16), none⟩,
              ⟨(some 18), .bin .add (.c (.int .i64 1)) (.t 17), none⟩,
              ⟨(some 19), .bin .add (.t 12) (.t 18), none⟩,
              ⟨(some 3), .mv (.t 19), none⟩])
           (.seq (.reg [⟨(some 5), .mv (.c (.int .i64 0)), none⟩])
            (.block 2 (.loop (.seq (.seq (.reg [⟨(some 20), .mv (.t 5), none⟩,
                   ⟨(some 21), .mv (.t 0), none⟩,
                   ⟨(some 22), .mv (.t 4), none⟩,
                   ⟨(some 23), .iaddr 1 (.t 21) (.t 22), none⟩,
                   ⟨(some 24), .load none (.t 23), none⟩,
                   ⟨(some 25), .lenL (.t 24), none⟩,
                   ⟨(some 26), .bin .lss (.t 20) (.t 25), none⟩,
                   ⟨(some 27), .mv (.t 26), none⟩,
                   ⟨(some 28), .mv (.t 3), some (27, true)⟩,
                   ⟨(some 29), .bin .leq (.t 28) (.c (.int .i64 32000)), some (27, true)⟩,
                   ⟨(some 30), .pick (.t 27) (.t 29) (.c (.bool false)), none⟩])
                (.cond (.t 30) (.skip) (.exit 2)))
               (.seq (.block 3 (.reg [⟨(some 33), .mv (.t 3), none⟩,
                    ⟨(some 34), .mv (.t 0), none⟩,
                    ⟨(some 35), .mv (.t 4), none⟩,
                    ⟨(some 36), .iaddr 1 (.t 34) (.t 35), none⟩,
                    ⟨(some 37), .load none (.t 36), none⟩,
                    ⟨(some 38), .mv (.t 5), none⟩,
                    ⟨(some 39), .iaddr 1 (.t 37) (.t 38), none⟩,
                    ⟨(some 40), .load none (.t 39), none⟩,
                    ⟨(some 41), .lenS (.t 40), none⟩,
                    ⟨(some 42), .bin .add (.t 33) (.t 41), none⟩,
                    ⟨(some 3), .mv (.t 42), none⟩]))
                (.reg [⟨(some 31), .mv (.t 5), none⟩,
                   ⟨(some 32), .bin .add (.t 31) (.c (.int .i64 1)), none⟩,
                   ⟨(some 5), .mv (.t 32), none⟩]))))))))
         (.reg [⟨(some 10), .mv (.t 4), none⟩,
            ⟨(some 11), .bin .add (.t 10) (.c (.int .i64 1)), none⟩,
            ⟨(some 4), .mv (.t 11), none⟩]))))))
    (.seq (.reg [⟨(some 43), .mv (.t 3), none⟩,
        ⟨(some 2), .mv (.t 43), none⟩])
     (.ret))))
theorem s16_ok : lookF Try.prog 16 = some (s16, 44, [.tmp 2]) := by kernel_rfl
theorem bytes_ok (l : List (List Str)) (hl : l.length ≤ 1000) : FnR P 16 [sl l] fun r => ∃ n : Int, r = intA n := by
  (refine fnR_look s16_ok (by simp) (int_bel) fun S hS => cwp_sound _ _ _ _ ?_; simp (disch := omega) only [s16, go_sem, Nat.reduceEqDiff, ↓reduceIte, reduceCtorEq, Nat.reduceAdd, Nat.reduceMul, Int.reduceToNat, List.reduceReplicate, Nat.reduceLeDiff, Nat.reduceLT, Int.reduceLT, Int.reduceLE, Int.reduceEq])
  (refine loopC hS [0] (by simp only [go_sem, Nat.reduceEqDiff, ↓reduceIte, reduceCtorEq, Nat.reduceAdd, Nat.reduceMul, Int.reduceToNat, List.reduceReplicate, Nat.reduceLeDiff, Nat.reduceLT, Int.reduceLT, Int.reduceLE, Int.reduceEq]; try rfl) (fun (⟨i, n⟩ : Nat × Int) => [(3, intA n), (4, intA i)]) (fun (⟨i, n⟩ : Nat × Int) => []) (fun (⟨i, n⟩ : Nat × Int) => i ≤ l.length) (fun (⟨i, n⟩ : Nat × Int) => l.length - i) ((0, 0)) ?h03 ?hn3 ?rd3; case hn3 => (intro s; first | rfl | (rcases s with ⟨_, _⟩; rfl) | (rcases s with ⟨_, _, _⟩; rfl) | (rcases s with ⟨_, _, _, _⟩; rfl) | (rcases s with ⟨_, _, _, _, _⟩; rfl)))
  · simp (disch := omega) only [go_sem, Nat.reduceEqDiff, ↓reduceIte, reduceCtorEq, Nat.reduceAdd, Nat.reduceMul, Int.reduceToNat, List.reduceReplicate, Nat.reduceLeDiff, Nat.reduceLT, Int.reduceLT, Int.reduceLE, Int.reduceEq]; simp
  rintro ⟨i, n⟩ hi
  replace hi : i ≤ l.length := hi
  repeat' (first | (with_reducible refine in_seq ?_) | (with_reducible refine in_reg ?_) | (with_reducible refine in_block ?_) | (with_reducible refine in_cond ?_) | (with_reducible refine in_ret ?_) | (with_reducible refine in_skip ?_) | (simp (disch := omega) only [go_sem, Nat.reduceEqDiff, ↓reduceIte, reduceCtorEq, Nat.reduceAdd, Nat.reduceMul, Int.reduceToNat, List.reduceReplicate, Nat.reduceLeDiff, Nat.reduceLT, Int.reduceLT, Int.reduceLE, Int.reduceEq]) | (with_reducible refine giv_intro fun _h => ?_) | (with_reducible refine alt_intro ?_ (fun _h => ?_)) | ((first | with_reducible refine br_dec (fun _h => ?_) (fun _h => ?_) | with_reducible refine br_ndec (fun _h => ?_) (fun _h => ?_)) <;> (first | (exfalso; omega) | simp only [decide_eq_false _h] | simp only [decide_eq_true _h] | skip)) | ((first | with_reducible refine br_not (fun _h => ?_) (fun _h => ?_) | with_reducible refine br_var (fun _h => ?_) (fun _h => ?_)) <;> (try simp only [_h])) | fail)
  · (refine loopC hS [0, 4] (by simp only [go_sem, Nat.reduceEqDiff, ↓reduceIte, reduceCtorEq, Nat.reduceAdd, Nat.reduceMul, Int.reduceToNat, List.reduceReplicate, Nat.reduceLeDiff, Nat.reduceLT, Int.reduceLT, Int.reduceLE, Int.reduceEq]; try rfl) (fun (⟨k, n⟩ : Nat × Int) => [(3, intA n), (5, intA k)]) (fun (⟨k, n⟩ : Nat × Int) => []) (fun (⟨k, n⟩ : Nat × Int) => k ≤ (nth l i).length) (fun (⟨k, n⟩ : Nat × Int) => (nth l i).length - k) ((0, IntKind.i64.wrap (n + IntKind.i64.wrap (1 + (nth l i).length)))) ?h04 ?hn4 ?rd4; case hn4 => (intro s; first | rfl | (rcases s with ⟨_, _⟩; rfl) | (rcases s with ⟨_, _, _⟩; rfl) | (rcases s with ⟨_, _, _, _⟩; rfl) | (rcases s with ⟨_, _, _, _, _⟩; rfl)))
    · simp (disch := omega) only [go_sem, Nat.reduceEqDiff, ↓reduceIte, reduceCtorEq, Nat.reduceAdd, Nat.reduceMul, Int.reduceToNat, List.reduceReplicate, Nat.reduceLeDiff, Nat.reduceLT, Int.reduceLT, Int.reduceLE, Int.reduceEq]; simp
    rintro ⟨k, n⟩ hk
    replace hk : k ≤ (nth l i).length := hk
    repeat' (first | (with_reducible refine in_seq ?_) | (with_reducible refine in_reg ?_) | (with_reducible refine in_block ?_) | (with_reducible refine in_cond ?_) | (with_reducible refine in_ret ?_) | (with_reducible refine in_skip ?_) | (simp (disch := omega) only [go_sem, Nat.reduceEqDiff, ↓reduceIte, reduceCtorEq, Nat.reduceAdd, Nat.reduceMul, Int.reduceToNat, List.reduceReplicate, Nat.reduceLeDiff, Nat.reduceLT, Int.reduceLT, Int.reduceLE, Int.reduceEq]) | (with_reducible refine giv_intro fun _h => ?_) | (with_reducible refine alt_intro ?_ (fun _h => ?_)) | ((first | with_reducible refine br_dec (fun _h => ?_) (fun _h => ?_) | with_reducible refine br_ndec (fun _h => ?_) (fun _h => ?_)) <;> (first | (exfalso; omega) | simp only [decide_eq_false _h] | simp only [decide_eq_true _h] | skip)) | ((first | with_reducible refine br_not (fun _h => ?_) (fun _h => ?_) | with_reducible refine br_var (fun _h => ?_) (fun _h => ?_)) <;> (try simp only [_h])) | fail)
    · exact ⟨(k + 1, _), ⟨by omega, by omega⟩, rfl, by omega⟩
    · exact ⟨(i + 1, _), ⟨by omega, by omega⟩, rfl, by omega⟩
    · exact ⟨(i + 1, _), ⟨by omega, by omega⟩, rfl, by omega⟩
  · exact ⟨_, rfl⟩

/-- The greatest number that a form asks for. -/
def mostL : List Str → Int
  | [] => 0
  | s :: l => max (digit s) (mostL l)
theorem mostL_range (l : List Str) : 0 ≤ mostL l ∧ mostL l ≤ 9 := by
  induction l with
  | nil => simp [mostL]
  | cons s l ih => have := digit_range s; simp only [mostL]; omega
/-- A word's texts set where a form asks for one of the first n. -/
def rootF (n : Nat) : List Str → List Str → List Str → List Str
  | s :: form, x :: w, r => rootF n form w (if 1 ≤ digit s ∧ digit s ≤ n then r.set (digit s - 1).toNat x else r)
  | _, _, r => r
def rootU (n : Nat) (w form : List Str) : List Str := rootF n form w (List.replicate n ⟨#[]⟩)
theorem rootF_len (n : Nat) : ∀ (form w r : List Str), (rootF n form w r).length = r.length
  | [], _, r => by simp [rootF]
  | s :: form, [], r => by simp [rootF]
  | s :: form, x :: w, r => by
    simp only [rootF]
    rw [rootF_len n form w]
    split <;> simp
theorem rootU_len (n : Nat) (w form : List Str) : (rootU n w form).length = n := by rw [rootU, rootF_len]; simp
def fitsU (w form : List Str) (n : Nat) : Bool := !((rootU n w form).any fun x => decide ((⟨#[]⟩ : Str) = x)) && decide (weaveL (rootU n w form) form = w)
/-- The roots of k + 1 to k + m texts. -/
def rootsU (w form : List Str) : Nat → Nat → List (List Str)
  | _, 0 => []
  | k, m + 1 => (if fitsU w form (k + 1) = true then [rootU (k + 1) w form] else []) ++ rootsU w form (k + 1) m
def unweaveE (w form : List Str) : Int := if wordsErr [w, form] ≠ 0 then wordsErr [w, form] else if mostL form = 0 then 4 else 0
def unweaveV (w form : List Str) : List (List Str) := if unweaveE w form = 0 ∧ w.length = form.length then rootsU w form 0 (mostL form).toNat else []

theorem findIdx_any' {l : List Str} {v : Str} : decide (0 ≤ (match l.findIdx? (fun x => decide (v = x)) with | some i => (i : Int) | none => -1)) = l.any (fun x => decide (v = x)) := findIdx_any
/-- slices.Index[[]string,string]: 2 parameters, 0 captured -/
def s111 : SC := .seq (.reg [⟨(some 4), .mv (.c (.int .i64 0)), none⟩])
  (.seq (.seq (.reg [⟨(some 6), .mv (.t 0), none⟩,
       ⟨(some 7), .lenL (.t 6), none⟩,
       ⟨(some 8), .mv (.c (.int .i64 0)), none⟩])
    (.block 0 (.loop (.seq (.reg [⟨(some 9), .bin .lss (.t 8) (.t 7), none⟩])
       (.seq (.cond (.t 9) (.skip) (.exit 0))
        (.seq (.block 1 (.seq (.reg [⟨(some 10), .mv (.t 8), none⟩,
              ⟨(some 5), .mv (.t 10), none⟩])
           (.seq (.reg [⟨(some 11), .mv (.t 1), none⟩,
               ⟨(some 12), .mv (.t 0), none⟩,
               ⟨(some 13), .mv (.t 5), none⟩,
               ⟨(some 14), .iaddr 1 (.t 12) (.t 13), none⟩,
               ⟨(some 15), .load none (.t 14), none⟩,
               ⟨(some 16), .bin .eql (.t 11) (.t 15), none⟩])
            (.cond (.t 16) (.seq (.reg [⟨(some 17), .mv (.t 5), none⟩,
                 ⟨(some 4), .mv (.t 17), none⟩])
              (.ret)) (.skip)))))
         (.reg [⟨(some 18), .bin .add (.t 8) (.c (.int .i64 1)), none⟩,
            ⟨(some 8), .mv (.t 18), none⟩])))))))
   (.seq (.reg [⟨(some 4), .mv (.c (.int .i64 (-1))), none⟩])
    (.ret)))
theorem s111_ok : lookF Try.prog 111 = some (s111, 19, [.tmp 4]) := by kernel_rfl
theorem Index_ok (l : List Str) (v : Str) :
    Fn P 111 [sl l, strA v] (intA (match l.findIdx? (fun x => decide (v = x)) with | some i => (i : Int) | none => -1)) := by
  (refine fn_look s111_ok (by simp) (by intro k; simp only [go_sem, Nat.reduceEqDiff, ↓reduceIte, reduceCtorEq, Nat.reduceAdd, Nat.reduceMul, Int.reduceToNat, List.reduceReplicate, Nat.reduceLeDiff, Nat.reduceLT, Int.reduceLT, Int.reduceLE, Int.reduceEq]) fun S hS => cwp_sound _ _ _ _ ?_; simp (disch := omega) only [s111, go_sem, Nat.reduceEqDiff, ↓reduceIte, reduceCtorEq, Nat.reduceAdd, Nat.reduceMul, Int.reduceToNat, List.reduceReplicate, Nat.reduceLeDiff, Nat.reduceLT, Int.reduceLT, Int.reduceLE, Int.reduceEq])
  repeat' (first | (with_reducible refine in_seq ?_) | (with_reducible refine in_reg ?_) | (with_reducible refine in_block ?_) | (with_reducible refine in_cond ?_) | (with_reducible refine in_ret ?_) | (with_reducible refine in_skip ?_) | (simp (disch := omega) only [go_sem, Nat.reduceEqDiff, ↓reduceIte, reduceCtorEq, Nat.reduceAdd, Nat.reduceMul, Int.reduceToNat, List.reduceReplicate, Nat.reduceLeDiff, Nat.reduceLT, Int.reduceLT, Int.reduceLE, Int.reduceEq]) | (with_reducible refine giv_intro fun _h => ?_) | (with_reducible refine alt_intro ?_ (fun _h => ?_)) | ((first | with_reducible refine br_dec (fun _h => ?_) (fun _h => ?_) | with_reducible refine br_ndec (fun _h => ?_) (fun _h => ?_)) <;> (first | (exfalso; omega) | simp only [decide_eq_false _h] | simp only [decide_eq_true _h] | skip)) | ((first | with_reducible refine br_not (fun _h => ?_) (fun _h => ?_) | with_reducible refine br_var (fun _h => ?_) (fun _h => ?_)) <;> (try simp only [_h])) | fail)
  (refine loopC hS [0, 1, 7] (by simp only [go_sem, Nat.reduceEqDiff, ↓reduceIte, reduceCtorEq, Nat.reduceAdd, Nat.reduceMul, Int.reduceToNat, List.reduceReplicate, Nat.reduceLeDiff, Nat.reduceLT, Int.reduceLT, Int.reduceLE, Int.reduceEq]; try rfl) (fun (i : Nat) => [(8, intA i)]) (fun (i : Nat) => []) (fun (i : Nat) => i ≤ l.length ∧ l.findIdx? (fun x => decide (v = x)) = ((l.drop i).findIdx? (fun x => decide (v = x))).map (· + i)) (fun (i : Nat) => l.length - i) (0) ?h05 ?hn5 ?rd5; case hn5 => (intro s; first | rfl | (rcases s with ⟨_, _⟩; rfl) | (rcases s with ⟨_, _, _⟩; rfl) | (rcases s with ⟨_, _, _, _⟩; rfl) | (rcases s with ⟨_, _, _, _, _⟩; rfl)))
  · simp (disch := omega) only [go_sem, Nat.reduceEqDiff, ↓reduceIte, reduceCtorEq, Nat.reduceAdd, Nat.reduceMul, Int.reduceToNat, List.reduceReplicate, Nat.reduceLeDiff, Nat.reduceLT, Int.reduceLT, Int.reduceLE, Int.reduceEq]; simp
  rintro i ⟨hi, hI⟩
  repeat' (first | (with_reducible refine in_seq ?_) | (with_reducible refine in_reg ?_) | (with_reducible refine in_block ?_) | (with_reducible refine in_cond ?_) | (with_reducible refine in_ret ?_) | (with_reducible refine in_skip ?_) | (simp (disch := omega) only [go_sem, Nat.reduceEqDiff, ↓reduceIte, reduceCtorEq, Nat.reduceAdd, Nat.reduceMul, Int.reduceToNat, List.reduceReplicate, Nat.reduceLeDiff, Nat.reduceLT, Int.reduceLT, Int.reduceLE, Int.reduceEq]) | (with_reducible refine giv_intro fun _h => ?_) | (with_reducible refine alt_intro ?_ (fun _h => ?_)) | ((first | with_reducible refine br_dec (fun _h => ?_) (fun _h => ?_) | with_reducible refine br_ndec (fun _h => ?_) (fun _h => ?_)) <;> (first | (exfalso; omega) | simp only [decide_eq_false _h] | simp only [decide_eq_true _h] | skip)) | ((first | with_reducible refine br_not (fun _h => ?_) (fun _h => ?_) | with_reducible refine br_var (fun _h => ?_) (fun _h => ?_)) <;> (try simp only [_h])) | fail)
  · rw [hI, nth_drop (by assumption)]
    simp_all [List.findIdx?_cons]
  · refine ⟨i + 1, ⟨by omega, by omega, ?_⟩, by omega⟩
    rw [hI, nth_drop (by assumption), List.findIdx?_cons]
    simp_all [Function.comp_def, Nat.add_comm, Nat.add_left_comm]
  · rw [hI, drop_end (by omega)]; rfl
/-- slices.Contains[[]string,string]: 2 parameters, 0 captured -/
def s58 : SC := .seq (.reg [⟨(some 4), .mv (.c (.bool false)), none⟩])
  (.seq (.reg [⟨(some 5), .mv (.t 0), none⟩,
      ⟨(some 6), .mv (.t 1), none⟩,
      ⟨(some 7), .call (.f 111) [(.t 5), (.t 6)], none⟩,
      ⟨(some 8), .bin .geq (.t 7) (.c (.int .i64 0)), none⟩,
      ⟨(some 4), .mv (.t 8), none⟩])
   (.ret))
theorem s58_ok : lookF Try.prog 58 = some (s58, 9, [.tmp 4]) := by kernel_rfl
theorem Contains_ok (l : List Str) (v : Str) : Fn P 58 [sl l, strA v] (boolA (l.any (fun x => decide (v = x)))) := by
  (refine fn_look s58_ok (by simp) (by intro k; simp only [go_sem, Nat.reduceEqDiff, ↓reduceIte, reduceCtorEq, Nat.reduceAdd, Nat.reduceMul, Int.reduceToNat, List.reduceReplicate, Nat.reduceLeDiff, Nat.reduceLT, Int.reduceLT, Int.reduceLE, Int.reduceEq]) fun S hS => cwp_sound _ _ _ _ ?_; simp (disch := omega) only [s58, go_sem, Nat.reduceEqDiff, ↓reduceIte, reduceCtorEq, Nat.reduceAdd, Nat.reduceMul, Int.reduceToNat, List.reduceReplicate, Nat.reduceLeDiff, Nat.reduceLT, Int.reduceLT, Int.reduceLE, Int.reduceEq])
  repeat' (first | (with_reducible refine in_seq ?_) | (with_reducible refine in_reg ?_) | (with_reducible refine in_block ?_) | (with_reducible refine in_cond ?_) | (with_reducible refine in_ret ?_) | (with_reducible refine in_skip ?_) | (simp (disch := omega) only [go_sem, Nat.reduceEqDiff, ↓reduceIte, reduceCtorEq, Nat.reduceAdd, Nat.reduceMul, Int.reduceToNat, List.reduceReplicate, Nat.reduceLeDiff, Nat.reduceLT, Int.reduceLT, Int.reduceLE, Int.reduceEq]) | (with_reducible refine giv_intro fun _h => ?_) | (with_reducible refine alt_intro ?_ (fun _h => ?_)) | ((first | with_reducible refine br_dec (fun _h => ?_) (fun _h => ?_) | with_reducible refine br_ndec (fun _h => ?_) (fun _h => ?_)) <;> (first | (exfalso; omega) | simp only [decide_eq_false _h] | simp only [decide_eq_true _h] | skip)) | ((first | with_reducible refine br_not (fun _h => ?_) (fun _h => ?_) | with_reducible refine br_var (fun _h => ?_) (fun _h => ?_)) <;> (try simp only [_h])) | ((with_reducible apply call (Index_ok l v)); (focus (simp (disch := omega) only [go_sem, Nat.reduceEqDiff, ↓reduceIte, reduceCtorEq, Nat.reduceAdd, Nat.reduceMul, Int.reduceToNat, List.reduceReplicate, Nat.reduceLeDiff, Nat.reduceLT, Int.reduceLT, Int.reduceLE, Int.reduceEq]; (try rfl); done))) | fail)
  exact findIdx_any'

theorem tset {α : Type} {l : List α} {i : Nat} (h : i < l.length) (x : α) : l.take i ++ [x] ++ l.drop (i + 1) = l.set i x := by
  rw [List.set_eq_take_append_cons_drop, if_pos h]; simp
/-- ablaut/harm.Unweave: 2 parameters, 0 captured -/
def s20 : SC := .seq (.reg [⟨(some 4), .mv (.c (.slice none 0 0)), none⟩,
     ⟨(some 5), .mv (.c (.int .i64 0)), none⟩])
  (.seq (.seq (.reg [⟨(some 16), .mv (.t 0), none⟩,
       ⟨(some 17), .mv (.t 1), none⟩,
       ⟨(some 18), .buildSl 22 1 2 [(.slice none 0 0)] [(0, 1, (.t 16)), (1, 1, (.t 17))], none⟩,
       ⟨(some 19), .call (.f 53) [(.t 18)], none⟩,
       ⟨(some 6), .mv (.t 19), none⟩])
    (.seq (.reg [⟨(some 20), .mv (.t 6), none⟩,
        ⟨(some 21), .bin .neq (.t 20) (.c (.int .i64 0)), none⟩])
     (.cond (.t 21) (.seq (.reg [⟨(some 22), .mv (.t 6), none⟩,
          ⟨(some 4), .mv (.c (.slice none 0 0)), none⟩,
          ⟨(some 5), .mv (.t 22), none⟩])
       (.ret)) (.skip))))
   (.seq (.reg [⟨(some 7), .mv (.c (.int .i64 0)), none⟩])
    (.seq (.seq (.reg [⟨(some 23), .mv (.t 1), none⟩,
         ⟨(some 24), .lenL (.t 23), none⟩,
         ⟨(some 25), .mv (.c (.int .i64 0)), none⟩])
      (.block 0 (.loop (.seq (.reg [⟨(some 26), .bin .lss (.t 25) (.t 24), none⟩])
         (.seq (.cond (.t 26) (.skip) (.exit 0))
          (.seq (.block 1 (.seq (.reg [⟨(some 27), .iaddr 1 (.t 23) (.t 25), none⟩,
                ⟨(some 28), .load none (.t 27), none⟩,
                ⟨(some 9), .mv (.t 28), none⟩])
             (.reg [⟨(some 29), .mv (.t 7), none⟩,
                ⟨(some 30), .mv (.t 9), none⟩,
                ⟨(some 31), .call (.f 57) [(.t 30)], none⟩,
                ⟨(some 32), .max (.t 29) (.t 31), none⟩,
                ⟨(some 7), .mv (.t 32), none⟩])))
           (.reg [⟨(some 33), .bin .add (.t 25) (.c (.int .i64 1)), none⟩,
              ⟨(some 25), .mv (.t 33), none⟩])))))))
     (.seq (.seq (.reg [⟨(some 34), .mv (.t 7), none⟩,
          ⟨(some 35), .bin .eql (.t 34) (.c (.int .i64 0)), none⟩])
       (.cond (.t 35) (.seq (.reg [⟨(some 4), .mv (.c (.slice none 0 0)), none⟩,
            ⟨(some 5), .mv (.c (.int .i64 4)), none⟩])
         (.ret)) (.skip)))
      (.seq (.reg [⟨(some 10), .mv (.c (.slice none 0 0)), none⟩])
       (.seq (.seq (.reg [⟨(some 36), .mv (.t 0), none⟩,
            ⟨(some 37), .lenL (.t 36), none⟩,
            ⟨(some 38), .mv (.t 1), none⟩,
            ⟨(some 39), .lenL (.t 38), none⟩,
            ⟨(some 40), .bin .neq (.t 37) (.t 39), none⟩])
         (.cond (.t 40) (.seq (.reg [⟨(some 4), .mv (.c (.slice none 0 0)), none⟩,
              ⟨(some 5), .mv (.c (.int .i64 0)), none⟩])
           (.ret)) (.skip)))
        (.seq (.seq (.reg [⟨(some 11), .mv (.c (.int .i64 1)), none⟩])
          (.block 2 (.loop (.seq (.seq (.reg [⟨(some 41), .mv (.t 11), none⟩,
                 ⟨(some 42), .mv (.t 7), none⟩,
                 ⟨(some 43), .bin .leq (.t 41) (.t 42), none⟩])
              (.cond (.t 43) (.skip) (.exit 2)))
             (.seq (.block 3 (.seq (.reg [⟨(some 46), .mv (.t 11), none⟩,
                   ⟨(some 47), .mksl 9 1 16 [(.string ⟨#[]⟩)] (.t 46) (.t 46), none⟩,
                   ⟨(some 12), .mv (.t 47), none⟩])
                (.seq (.seq (.reg [⟨(some 48), .mv (.t 1), none⟩,
                     ⟨(some 49), .lenL (.t 48), none⟩,
                     ⟨(some 50), .mv (.c (.int .i64 0)), none⟩])
                  (.block 4 (.loop (.seq (.reg [⟨(some 51), .bin .lss (.t 50) (.t 49), none⟩])
                     (.seq (.cond (.t 51) (.skip) (.exit 4))
                      (.seq (.block 5 (.seq (.reg [⟨(some 52), .mv (.t 50), none⟩,
                            ⟨(some 53), .iaddr 1 (.t 48) (.t 50), none⟩,
                            ⟨(some 54), .load none (.t 53), none⟩,
                            ⟨(some 13), .mv (.t 52), none⟩,
                            ⟨(some 14), .mv (.t 54), none⟩])
                         (.seq (.reg [⟨(some 55), .mv (.t 14), none⟩,
                             ⟨(some 56), .call (.f 57) [(.t 55)], none⟩,
                             ⟨(some 15), .mv (.t 56), none⟩])
                          (.seq (.reg [⟨(some 57), .mv (.t 15), none⟩,
                              ⟨(some 58), .bin .gtr (.t 57) (.c (.int .i64 0)), none⟩,
                              ⟨(some 59), .mv (.t 58), none⟩,
                              ⟨(some 60), .mv (.t 15), some (59, true)⟩,
                              ⟨(some 61), .mv (.t 11), some (59, true)⟩,
                              ⟨(some 62), .bin .leq (.t 60) (.t 61), some (59, true)⟩,
                              ⟨(some 63), .pick (.t 59) (.t 62) (.c (.bool false)), none⟩])
                           (.cond (.t 63) (.reg [⟨(some 64), .mv (.t 12), none⟩,
                               ⟨(some 65), .mv (.t 15), none⟩,
                               ⟨(some 66), .bin .sub (.t 65) (.c (.int .i64 1)), none⟩,
                               ⟨(some 67), .mv (.t 0), none⟩,
                               ⟨(some 68), .mv (.t 13), none⟩,
                               ⟨(some 69), .iaddr 1 (.t 67) (.t 68), none⟩,
                               ⟨(some 70), .load none (.t 69), none⟩,
                               ⟨(some 71), .iaddr 1 (.t 64) (.t 66), none⟩,
                               ⟨none, .store 1 (.t 71) (.t 70), none⟩]) (.skip))))))
                       (.reg [⟨(some 72), .bin .add (.t 50) (.c (.int .i64 1)), none⟩,
                          ⟨(some 50), .mv (.t 72), none⟩])))))))
                 (.seq (.reg [⟨(some 73), .mv (.t 12), none⟩,
                     ⟨(some 74), .call (.f 58) [(.t 73), (.c (.string ⟨#[]⟩))], none⟩,
                     ⟨(some 75), .un .not (.t 74), none⟩,
                     ⟨(some 76), .mv (.t 75), none⟩,
                     ⟨(some 77), .mv (.t 12), some (76, true)⟩,
                     ⟨(some 78), .mv (.t 1), some (76, true)⟩,
                     ⟨(some 79), .call (.f 54) [(.t 77), (.t 78)], some (76, true)⟩,
                     ⟨(some 80), .mv (.t 0), some (76, true)⟩,
                     ⟨(some 81), .call (.f 59) [(.t 79), (.t 80)], some (76, true)⟩,
                     ⟨(some 82), .pick (.t 76) (.t 81) (.c (.bool false)), none⟩])
                  (.cond (.t 82) (.reg [⟨(some 83), .mv (.t 10), none⟩,
                      ⟨(some 84), .mv (.t 12), none⟩,
                      ⟨(some 85), .buildSl 22 1 1 [(.slice none 0 0)] [(0, 1, (.t 84))], none⟩,
                      ⟨(some 86), .app 22 1 24 (.t 83) (.t 85), none⟩,
                      ⟨(some 10), .mv (.t 86), none⟩]) (.skip))))))
              (.reg [⟨(some 44), .mv (.t 11), none⟩,
                 ⟨(some 45), .bin .add (.t 44) (.c (.int .i64 1)), none⟩,
                 ⟨(some 11), .mv (.t 45), none⟩]))))))
         (.seq (.reg [⟨(some 87), .mv (.t 10), none⟩,
             ⟨(some 4), .mv (.t 87), none⟩,
             ⟨(some 5), .mv (.c (.int .i64 0)), none⟩])
          (.ret)))))))))
theorem s20_ok : lookF Try.prog 20 = some (s20, 88, [.tmp 4, .tmp 5]) := by kernel_rfl
theorem Unweave_ok (w form : List Str) : Fn P 20 [sl w, sl form] (.tup [sl (unweaveV w form), intA (unweaveE w form)]) := by
  have hmr := mostL_range form
  (refine fn_look s20_ok (by simp) (by intro k; simp only [go_sem, Nat.reduceEqDiff, ↓reduceIte, reduceCtorEq, Nat.reduceAdd, Nat.reduceMul, Int.reduceToNat, List.reduceReplicate, Nat.reduceLeDiff, Nat.reduceLT, Int.reduceLT, Int.reduceLE, Int.reduceEq]) fun S hS => cwp_sound _ _ _ _ ?_; simp (disch := omega) only [s20, go_sem, Nat.reduceEqDiff, ↓reduceIte, reduceCtorEq, Nat.reduceAdd, Nat.reduceMul, Int.reduceToNat, List.reduceReplicate, Nat.reduceLeDiff, Nat.reduceLT, Int.reduceLT, Int.reduceLE, Int.reduceEq])
  repeat' (first | (with_reducible refine in_seq ?_) | (with_reducible refine in_reg ?_) | (with_reducible refine in_block ?_) | (with_reducible refine in_cond ?_) | (with_reducible refine in_ret ?_) | (with_reducible refine in_skip ?_) | (simp (disch := omega) only [go_sem, Nat.reduceEqDiff, ↓reduceIte, reduceCtorEq, Nat.reduceAdd, Nat.reduceMul, Int.reduceToNat, List.reduceReplicate, Nat.reduceLeDiff, Nat.reduceLT, Int.reduceLT, Int.reduceLE, Int.reduceEq]) | (with_reducible refine giv_intro fun _h => ?_) | (with_reducible refine alt_intro ?_ (fun _h => ?_)) | ((first | with_reducible refine br_dec (fun _h => ?_) (fun _h => ?_) | with_reducible refine br_ndec (fun _h => ?_) (fun _h => ?_)) <;> (first | (exfalso; omega) | simp only [decide_eq_false _h] | simp only [decide_eq_true _h] | skip)) | ((first | with_reducible refine br_not (fun _h => ?_) (fun _h => ?_) | with_reducible refine br_var (fun _h => ?_) (fun _h => ?_)) <;> (try simp only [_h])) | ((with_reducible apply call_lend (words_ok [w, form])); (focus (simp (disch := omega) only [go_sem, Nat.reduceEqDiff, ↓reduceIte, reduceCtorEq, Nat.reduceAdd, Nat.reduceMul, Int.reduceToNat, List.reduceReplicate, Nat.reduceLeDiff, Nat.reduceLT, Int.reduceLT, Int.reduceLE, Int.reduceEq]; (try rfl); done)); (focus rfl)) | fail)
  · have e : unweaveE w form = wordsErr [w, form] := by rw [unweaveE, if_pos _h]
    rw [unweaveV, e, if_neg (by omega)]; rfl
  (refine loopC hS [0, 1, 23, 24] (by simp only [go_sem, Nat.reduceEqDiff, ↓reduceIte, reduceCtorEq, Nat.reduceAdd, Nat.reduceMul, Int.reduceToNat, List.reduceReplicate, Nat.reduceLeDiff, Nat.reduceLT, Int.reduceLT, Int.reduceLE, Int.reduceEq]; try rfl) (fun (⟨i, m⟩ : Nat × Int) => [(7, intA m), (25, intA i)]) (fun (⟨i, m⟩ : Nat × Int) => [none]) (fun (⟨i, m⟩ : Nat × Int) => i ≤ form.length ∧ 0 ≤ m ∧ mostL form = max m (mostL (form.drop i))) (fun (⟨i, m⟩ : Nat × Int) => form.length - i) ((0, 0)) ?h06 ?hn6 ?rd6; case hn6 => (intro s; first | rfl | (rcases s with ⟨_, _⟩; rfl) | (rcases s with ⟨_, _, _⟩; rfl) | (rcases s with ⟨_, _, _, _⟩; rfl) | (rcases s with ⟨_, _, _, _, _⟩; rfl)))
  · simp (disch := omega) only [go_sem, Nat.reduceEqDiff, ↓reduceIte, reduceCtorEq, Nat.reduceAdd, Nat.reduceMul, Int.reduceToNat, List.reduceReplicate, Nat.reduceLeDiff, Nat.reduceLT, Int.reduceLT, Int.reduceLE, Int.reduceEq]; simp; omega
  rintro ⟨i, m⟩ ⟨hi, hm, hI⟩
  have hdg := digit_range (nth form i)
  repeat' (first | (with_reducible refine in_seq ?_) | (with_reducible refine in_reg ?_) | (with_reducible refine in_block ?_) | (with_reducible refine in_cond ?_) | (with_reducible refine in_ret ?_) | (with_reducible refine in_skip ?_) | (simp (disch := omega) only [go_sem, Nat.reduceEqDiff, ↓reduceIte, reduceCtorEq, Nat.reduceAdd, Nat.reduceMul, Int.reduceToNat, List.reduceReplicate, Nat.reduceLeDiff, Nat.reduceLT, Int.reduceLT, Int.reduceLE, Int.reduceEq]) | (with_reducible refine giv_intro fun _h => ?_) | (with_reducible refine alt_intro ?_ (fun _h => ?_)) | ((first | with_reducible refine br_dec (fun _h => ?_) (fun _h => ?_) | with_reducible refine br_ndec (fun _h => ?_) (fun _h => ?_)) <;> (first | (exfalso; omega) | simp only [decide_eq_false _h] | simp only [decide_eq_true _h] | skip)) | ((first | with_reducible refine br_not (fun _h => ?_) (fun _h => ?_) | with_reducible refine br_var (fun _h => ?_) (fun _h => ?_)) <;> (try simp only [_h])) | ((with_reducible apply call (asked_ok _)); (focus (simp (disch := omega) only [go_sem, Nat.reduceEqDiff, ↓reduceIte, reduceCtorEq, Nat.reduceAdd, Nat.reduceMul, Int.reduceToNat, List.reduceReplicate, Nat.reduceLeDiff, Nat.reduceLT, Int.reduceLT, Int.reduceLE, Int.reduceEq]; (try rfl); done))) | fail)
  · refine ⟨(i + 1, _), ⟨by omega, by omega, ?_, ?_⟩, rfl, by omega⟩
    · show 0 ≤ max m _; omega
    · rw [hI, nth_drop (by assumption), mostL]
      show max m (max (digit (nth form i)) (mostL (form.drop (i + 1)))) = max (max m (digit (nth form i))) (mostL (form.drop (i + 1)))
      omega
  all_goals
    have hm2 : m = mostL form := by rw [hI, drop_end (by omega)]; simp only [mostL]; omega
  · have e : unweaveE w form = 4 := by rw [unweaveE, if_neg (by omega), if_pos (by omega)]
    rw [unweaveV, e, if_neg (by omega)]; rfl
  · have e : unweaveE w form = 0 := by rw [unweaveE, if_neg (by omega), if_neg (by omega)]
    rw [unweaveV, e, if_neg (by omega)]; rfl
  refine nil_row 10 22 1 (by simp (disch := omega) only [go_sem, Nat.reduceEqDiff, ↓reduceIte, reduceCtorEq, Nat.reduceAdd, Nat.reduceMul, Int.reduceToNat, List.reduceReplicate, Nat.reduceLeDiff, Nat.reduceLT, Int.reduceLT, Int.reduceLE, Int.reduceEq]) ?_
  (refine loopC hS [0, 1, 7] (by simp only [go_sem, Nat.reduceEqDiff, ↓reduceIte, reduceCtorEq, Nat.reduceAdd, Nat.reduceMul, Int.reduceToNat, List.reduceReplicate, Nat.reduceLeDiff, Nat.reduceLT, Int.reduceLT, Int.reduceLE, Int.reduceEq]; try rfl) (fun (⟨t, out⟩ : Nat × List (List Str)) => [(10, own S 1 out), (11, intA ((t + 1 : Nat) : Int))]) (fun (⟨t, out⟩ : Nat × List (List Str)) => [none, rowO 22 out]) (fun (⟨t, out⟩ : Nat × List (List Str)) => (t : Int) ≤ m ∧ out.length ≤ t ∧ rootsU w form 0 m.toNat = out ++ rootsU w form t (m.toNat - t)) (fun (⟨t, out⟩ : Nat × List (List Str)) => m.toNat - t) ((0, [])) ?h07 ?hn7 ?rd7; case hn7 => (intro s; first | rfl | (rcases s with ⟨_, _⟩; rfl) | (rcases s with ⟨_, _, _⟩; rfl) | (rcases s with ⟨_, _, _, _⟩; rfl) | (rcases s with ⟨_, _, _, _, _⟩; rfl)))
  · simp (disch := omega) only [go_sem, Nat.reduceEqDiff, ↓reduceIte, reduceCtorEq, Nat.reduceAdd, Nat.reduceMul, Int.reduceToNat, List.reduceReplicate, Nat.reduceLeDiff, Nat.reduceLT, Int.reduceLT, Int.reduceLE, Int.reduceEq]; simp; omega
  rintro ⟨t, out⟩ ⟨ht, hol, hI2⟩
  have hf60 := wordErr_len (wordsErr_two.1 (by assumption : wordsErr [w, form] = 0)).2
  have step : ∀ b, fitsU w form (t + 1) = b → t < m.toNat → rootsU w form t (m.toNat - t) = (if b = true then [rootU (t + 1) w form] else []) ++ rootsU w form (t + 1) (m.toNat - (t + 1)) := fun b hb h => by
    rw [← hb, show m.toNat - t = (m.toNat - (t + 1)) + 1 by omega, rootsU]
  repeat' (first | (with_reducible refine in_seq ?_) | (with_reducible refine in_reg ?_) | (with_reducible refine in_block ?_) | (with_reducible refine in_cond ?_) | (with_reducible refine in_ret ?_) | (with_reducible refine in_skip ?_) | (simp (disch := omega) only [go_sem, Nat.reduceEqDiff, ↓reduceIte, reduceCtorEq, Nat.reduceAdd, Nat.reduceMul, Int.reduceToNat, List.reduceReplicate, Nat.reduceLeDiff, Nat.reduceLT, Int.reduceLT, Int.reduceLE, Int.reduceEq]) | (with_reducible refine giv_intro fun _h => ?_) | (with_reducible refine alt_intro ?_ (fun _h => ?_)) | ((first | with_reducible refine br_dec (fun _h => ?_) (fun _h => ?_) | with_reducible refine br_ndec (fun _h => ?_) (fun _h => ?_)) <;> (first | (exfalso; omega) | simp only [decide_eq_false _h] | simp only [decide_eq_true _h] | skip)) | ((first | with_reducible refine br_not (fun _h => ?_) (fun _h => ?_) | with_reducible refine br_var (fun _h => ?_) (fun _h => ?_)) <;> (try simp only [_h])) | fail)
  · (refine loopC hS [0, 1, 7, 10, 11, 12, 48, 49] (by simp only [go_sem, Nat.reduceEqDiff, ↓reduceIte, reduceCtorEq, Nat.reduceAdd, Nat.reduceMul, Int.reduceToNat, List.reduceReplicate, Nat.reduceLeDiff, Nat.reduceLT, Int.reduceLT, Int.reduceLE, Int.reduceEq]; try rfl) (fun (⟨k, root⟩ : Nat × List Str) => [(50, intA k)]) (fun (⟨k, root⟩ : Nat × List Str) => [none, rowO 22 out, rowO 9 root]) (fun (⟨k, root⟩ : Nat × List Str) => k ≤ form.length ∧ root.length = t + 1 ∧ rootU (t + 1) w form = rootF (t + 1) (form.drop k) (w.drop k) root) (fun (⟨k, root⟩ : Nat × List Str) => form.length - k) ((0, List.replicate (t + 1) ⟨#[]⟩)) ?h08 ?hn8 ?rd8; case hn8 => (intro s; first | rfl | (rcases s with ⟨_, _⟩; rfl) | (rcases s with ⟨_, _, _⟩; rfl) | (rcases s with ⟨_, _, _, _⟩; rfl) | (rcases s with ⟨_, _, _, _, _⟩; rfl)))
    · simp (disch := omega) only [go_sem, Nat.reduceEqDiff, ↓reduceIte, reduceCtorEq, Nat.reduceAdd, Nat.reduceMul, Int.reduceToNat, List.reduceReplicate, Nat.reduceLeDiff, Nat.reduceLT, Int.reduceLT, Int.reduceLE, Int.reduceEq]
      simp [rootU]
    rintro ⟨k, root⟩ ⟨hk, hrl, hI3⟩
    have hdg := digit_range (nth form k)
    refine in_seq ?_
    repeat' (first | (simp (disch := omega) only [go_sem, Nat.reduceEqDiff, ↓reduceIte, reduceCtorEq, Nat.reduceAdd, Nat.reduceMul, Int.reduceToNat, List.reduceReplicate, Nat.reduceLeDiff, Nat.reduceLT, Int.reduceLT, Int.reduceLE, Int.reduceEq]) | (with_reducible refine giv_intro fun _h => ?_) | (with_reducible refine alt_intro ?_ (fun _h => ?_)) | ((first | with_reducible refine br_dec (fun _h => ?_) (fun _h => ?_) | with_reducible refine br_ndec (fun _h => ?_) (fun _h => ?_)) <;> (first | (exfalso; omega) | simp only [decide_eq_false _h] | simp only [decide_eq_true _h] | skip)) | ((first | with_reducible refine br_not (fun _h => ?_) (fun _h => ?_) | with_reducible refine br_var (fun _h => ?_) (fun _h => ?_)) <;> (try simp only [_h])) | ((with_reducible apply call (asked_ok _)); (focus (simp (disch := omega) only [go_sem, Nat.reduceEqDiff, ↓reduceIte, reduceCtorEq, Nat.reduceAdd, Nat.reduceMul, Int.reduceToNat, List.reduceReplicate, Nat.reduceLeDiff, Nat.reduceLT, Int.reduceLT, Int.reduceLE, Int.reduceEq]; (try rfl); done))) | fail)
    · refine ⟨(k + 1, _), ⟨by omega, by omega, ?_, ?_⟩, by omega, rfl⟩
      · rw [tset (by omega), List.length_set]; exact hrl
      · rw [hI3, nth_drop (l := form) (i := k) (by omega), nth_drop (l := w) (i := k) (by omega), rootF, if_pos (by omega), tset (by omega)]
    · refine ⟨(k + 1, _), ⟨by omega, by omega, hrl, ?_⟩, by omega, rfl⟩
      rw [hI3, nth_drop (l := form) (i := k) (by omega), nth_drop (l := w) (i := k) (by omega), rootF, if_neg (by omega)]
    · refine ⟨(k + 1, _), ⟨by omega, by omega, hrl, ?_⟩, by omega, rfl⟩
      rw [hI3, nth_drop (l := form) (i := k) (by omega), nth_drop (l := w) (i := k) (by omega), rootF, if_neg (by omega)]
    · have hr : rootU (t + 1) w form = root := by rw [hI3, drop_end (l := form) (by omega)]; simp [rootF]
      refine freezeF 12 2 9 root (by simp (disch := omega) only [go_sem, Nat.reduceEqDiff, ↓reduceIte, reduceCtorEq, Nat.reduceAdd, Nat.reduceMul, Int.reduceToNat, List.reduceReplicate, Nat.reduceLeDiff, Nat.reduceLT, Int.reduceLT, Int.reduceLE, Int.reduceEq]; simp; omega) (by simp (disch := omega) only [go_sem, Nat.reduceEqDiff, ↓reduceIte, reduceCtorEq, Nat.reduceAdd, Nat.reduceMul, Int.reduceToNat, List.reduceReplicate, Nat.reduceLeDiff, Nat.reduceLT, Int.reduceLT, Int.reduceLE, Int.reduceEq]) (by simp) ?_
      simp only [List.set_cons_zero, List.set_cons_succ]
      repeat' (first | (with_reducible refine in_seq ?_) | (with_reducible refine in_reg ?_) | (with_reducible refine in_block ?_) | (with_reducible refine in_cond ?_) | (with_reducible refine in_ret ?_) | (with_reducible refine in_skip ?_) | (simp (disch := omega) only [go_sem, Nat.reduceEqDiff, ↓reduceIte, reduceCtorEq, Nat.reduceAdd, Nat.reduceMul, Int.reduceToNat, List.reduceReplicate, Nat.reduceLeDiff, Nat.reduceLT, Int.reduceLT, Int.reduceLE, Int.reduceEq]) | (with_reducible refine giv_intro fun _h => ?_) | (with_reducible refine alt_intro ?_ (fun _h => ?_)) | ((first | with_reducible refine br_dec (fun _h => ?_) (fun _h => ?_) | with_reducible refine br_ndec (fun _h => ?_) (fun _h => ?_)) <;> (first | (exfalso; omega) | simp only [decide_eq_false _h] | simp only [decide_eq_true _h] | skip)) | ((first | with_reducible refine br_not (fun _h => ?_) (fun _h => ?_) | with_reducible refine br_var (fun _h => ?_) (fun _h => ?_)) <;> (try simp only [_h])) | ((with_reducible apply call (Contains_ok root ⟨#[]⟩)); (focus (simp (disch := omega) only [go_sem, Nat.reduceEqDiff, ↓reduceIte, reduceCtorEq, Nat.reduceAdd, Nat.reduceMul, Int.reduceToNat, List.reduceReplicate, Nat.reduceLeDiff, Nat.reduceLT, Int.reduceLT, Int.reduceLE, Int.reduceEq]; (try rfl); done))) | ((with_reducible apply call (woven_ok root form (by omega) (by omega))); (focus (simp (disch := omega) only [go_sem, Nat.reduceEqDiff, ↓reduceIte, reduceCtorEq, Nat.reduceAdd, Nat.reduceMul, Int.reduceToNat, List.reduceReplicate, Nat.reduceLeDiff, Nat.reduceLT, Int.reduceLT, Int.reduceLE, Int.reduceEq]; (try rfl); done))) | ((with_reducible apply call (Equal_ok _ _)); (focus (simp (disch := omega) only [go_sem, Nat.reduceEqDiff, ↓reduceIte, reduceCtorEq, Nat.reduceAdd, Nat.reduceMul, Int.reduceToNat, List.reduceReplicate, Nat.reduceLeDiff, Nat.reduceLT, Int.reduceLT, Int.reduceLE, Int.reduceEq]; (try rfl); done))) | fail)
      · rename_i hc
        refine ⟨(t + 1, _), ⟨by omega, by omega, by simp; omega, ?_⟩, ⟨by simp, by omega⟩, rfl⟩
        rw [hI2, step true (by rw [fitsU, hr, hc, decide_eq_true _h]; rfl) (by omega), hr]; simp
      · rename_i hc
        refine ⟨(t + 1, _), ⟨by omega, by omega, by simp; omega, ?_⟩, ⟨by simp, by omega⟩, rfl⟩
        rw [hI2, step false (by rw [fitsU, hr, decide_eq_false _h, Bool.and_false]) (by omega)]; simp
      · refine ⟨(t + 1, _), ⟨by omega, by omega, by simp; omega, ?_⟩, ⟨by simp, by omega⟩, rfl⟩
        rw [hI2, step false (by rw [fitsU, hr, _h]; rfl) (by omega)]; simp
  · have hm3 : m.toNat = t := by omega
    have e : unweaveE w form = 0 := by rw [unweaveE, if_neg (by omega), if_neg (by omega)]
    rw [unweaveV, e, if_pos (by omega), ← hm2, hI2, hm3]
    simp [rootsU]

/-- ablaut/ablautref13.Unweave: 2 parameters, 0 captured -/
def s21 : SC := .seq (.reg [⟨(some 4), .mv (.c (.slice none 0 0)), none⟩,
     ⟨(some 5), .mv (.c (.int .i64 0)), none⟩])
  (.seq (.seq (.reg [⟨(some 16), .mv (.t 0), none⟩,
       ⟨(some 17), .mv (.t 1), none⟩,
       ⟨(some 18), .buildSl 22 1 2 [(.slice none 0 0)] [(0, 1, (.t 16)), (1, 1, (.t 17))], none⟩,
       ⟨(some 19), .call (.f 55) [(.t 18)], none⟩,
       ⟨(some 6), .mv (.t 19), none⟩])
    (.seq (.reg [⟨(some 20), .mv (.t 6), none⟩,
        ⟨(some 21), .bin .neq (.t 20) (.c (.int .i64 0)), none⟩])
     (.cond (.t 21) (.seq (.reg [⟨(some 22), .mv (.t 6), none⟩,
          ⟨(some 4), .mv (.c (.slice none 0 0)), none⟩,
          ⟨(some 5), .mv (.t 22), none⟩])
       (.ret)) (.skip))))
   (.seq (.reg [⟨(some 7), .mv (.c (.int .i64 0)), none⟩])
    (.seq (.seq (.reg [⟨(some 8), .mv (.c (.int .i64 0)), none⟩])
      (.block 0 (.loop (.seq (.seq (.reg [⟨(some 23), .mv (.t 8), none⟩,
             ⟨(some 24), .mv (.t 1), none⟩,
             ⟨(some 25), .lenL (.t 24), none⟩,
             ⟨(some 26), .bin .lss (.t 23) (.t 25), none⟩])
          (.cond (.t 26) (.skip) (.exit 0)))
         (.seq (.block 1 (.reg [⟨(some 29), .mv (.t 7), none⟩,
              ⟨(some 30), .mv (.t 1), none⟩,
              ⟨(some 31), .mv (.t 8), none⟩,
              ⟨(some 32), .iaddr 1 (.t 30) (.t 31), none⟩,
              ⟨(some 33), .load none (.t 32), none⟩,
              ⟨(some 34), .call (.f 60) [(.t 33)], none⟩,
              ⟨(some 35), .max (.t 29) (.t 34), none⟩,
              ⟨(some 7), .mv (.t 35), none⟩]))
          (.reg [⟨(some 27), .mv (.t 8), none⟩,
             ⟨(some 28), .bin .add (.t 27) (.c (.int .i64 1)), none⟩,
             ⟨(some 8), .mv (.t 28), none⟩]))))))
     (.seq (.seq (.reg [⟨(some 36), .mv (.t 7), none⟩,
          ⟨(some 37), .bin .eql (.t 36) (.c (.int .i64 0)), none⟩])
       (.cond (.t 37) (.seq (.reg [⟨(some 4), .mv (.c (.slice none 0 0)), none⟩,
            ⟨(some 5), .mv (.c (.int .i64 4)), none⟩])
         (.ret)) (.skip)))
      (.seq (.reg [⟨(some 9), .mv (.c (.slice none 0 0)), none⟩])
       (.seq (.seq (.reg [⟨(some 10), .mv (.c (.int .i64 1)), none⟩])
         (.block 2 (.loop (.seq (.seq (.reg [⟨(some 38), .mv (.t 10), none⟩,
                ⟨(some 39), .mv (.t 7), none⟩,
                ⟨(some 40), .bin .leq (.t 38) (.t 39), none⟩,
                ⟨(some 41), .mv (.t 40), none⟩,
                ⟨(some 42), .mv (.t 0), some (41, true)⟩,
                ⟨(some 43), .lenL (.t 42), some (41, true)⟩,
                ⟨(some 44), .mv (.t 1), some (41, true)⟩,
                ⟨(some 45), .lenL (.t 44), some (41, true)⟩,
                ⟨(some 46), .bin .eql (.t 43) (.t 45), some (41, true)⟩,
                ⟨(some 47), .pick (.t 41) (.t 46) (.c (.bool false)), none⟩])
             (.cond (.t 47) (.skip) (.exit 2)))
            (.seq (.block 3 (.seq (.reg [⟨(some 50), .mv (.t 10), none⟩,
                  ⟨(some 51), .mksl 9 1 16 [(.string ⟨#[]⟩)] (.t 50) (.t 50), none⟩,
                  ⟨(some 11), .mv (.t 51), none⟩])
               (.seq (.seq (.reg [⟨(some 12), .mv (.c (.int .i64 0)), none⟩])
                 (.block 4 (.loop (.seq (.seq (.reg [⟨(some 52), .mv (.t 12), none⟩,
                        ⟨(some 53), .mv (.t 1), none⟩,
                        ⟨(some 54), .lenL (.t 53), none⟩,
                        ⟨(some 55), .bin .lss (.t 52) (.t 54), none⟩])
                     (.cond (.t 55) (.skip) (.exit 4)))
                    (.seq (.block 5 (.seq (.reg [⟨(some 58), .mv (.t 1), none⟩,
                          ⟨(some 59), .mv (.t 12), none⟩,
                          ⟨(some 60), .iaddr 1 (.t 58) (.t 59), none⟩,
                          ⟨(some 61), .load none (.t 60), none⟩,
                          ⟨(some 62), .call (.f 60) [(.t 61)], none⟩,
                          ⟨(some 13), .mv (.t 62), none⟩])
                       (.seq (.reg [⟨(some 63), .mv (.t 13), none⟩,
                           ⟨(some 64), .bin .geq (.t 63) (.c (.int .i64 1)), none⟩,
                           ⟨(some 65), .mv (.t 64), none⟩,
                           ⟨(some 66), .mv (.t 13), some (65, true)⟩,
                           ⟨(some 67), .mv (.t 10), some (65, true)⟩,
                           ⟨(some 68), .bin .leq (.t 66) (.t 67), some (65, true)⟩,
                           ⟨(some 69), .pick (.t 65) (.t 68) (.c (.bool false)), none⟩])
                        (.cond (.t 69) (.reg [⟨(some 70), .mv (.t 11), none⟩,
                            ⟨(some 71), .mv (.t 13), none⟩,
                            ⟨(some 72), .bin .sub (.t 71) (.c (.int .i64 1)), none⟩,
                            ⟨(some 73), .mv (.t 0), none⟩,
                            ⟨(some 74), .mv (.t 12), none⟩,
                            ⟨(some 75), .iaddr 1 (.t 73) (.t 74), none⟩,
                            ⟨(some 76), .load none (.t 75), none⟩,
                            ⟨(some 77), .iaddr 1 (.t 70) (.t 72), none⟩,
                            ⟨none, .store 1 (.t 77) (.t 76), none⟩]) (.skip)))))
                     (.reg [⟨(some 56), .mv (.t 12), none⟩,
                        ⟨(some 57), .bin .add (.t 56) (.c (.int .i64 1)), none⟩,
                        ⟨(some 12), .mv (.t 57), none⟩]))))))
                (.seq (.reg [⟨(some 14), .mv (.c (.bool true)), none⟩])
                 (.seq (.seq (.reg [⟨(some 15), .mv (.c (.int .i64 0)), none⟩])
                   (.block 6 (.loop (.seq (.seq (.reg [⟨(some 78), .mv (.t 15), none⟩,
                          ⟨(some 79), .mv (.t 10), none⟩,
                          ⟨(some 80), .bin .lss (.t 78) (.t 79), none⟩])
                       (.cond (.t 80) (.skip) (.exit 6)))
                      (.seq (.block 7 (.reg [⟨(some 83), .mv (.t 14), none⟩,
                           ⟨(some 84), .mv (.t 83), none⟩,
                           ⟨(some 85), .mv (.t 11), some (84, true)⟩,
                           ⟨(some 86), .mv (.t 15), some (84, true)⟩,
                           ⟨(some 87), .iaddr 1 (.t 85) (.t 86), some (84, true)⟩,
                           ⟨(some 88), .load none (.t 87), some (84, true)⟩,
                           ⟨(some 89), .bin .neq (.t 88) (.c (.string ⟨#[]⟩)), some (84, true)⟩,
                           ⟨(some 90), .pick (.t 84) (.t 89) (.c (.bool false)), none⟩,
                           ⟨(some 14), .mv (.t 90), none⟩]))
                       (.reg [⟨(some 81), .mv (.t 15), none⟩,
                          ⟨(some 82), .bin .add (.t 81) (.c (.int .i64 1)), none⟩,
                          ⟨(some 15), .mv (.t 82), none⟩]))))))
                  (.seq (.reg [⟨(some 91), .mv (.t 14), none⟩,
                      ⟨(some 92), .mv (.t 91), none⟩,
                      ⟨(some 93), .mv (.t 11), some (92, true)⟩,
                      ⟨(some 94), .mv (.t 1), some (92, true)⟩,
                      ⟨(some 95), .call (.f 56) [(.t 93), (.t 94)], some (92, true)⟩,
                      ⟨(some 96), .mv (.t 0), some (92, true)⟩,
                      ⟨(some 97), .call (.f 22) [(.t 95), (.t 96)], some (92, true)⟩,
                      ⟨(some 98), .pick (.t 92) (.t 97) (.c (.bool false)), none⟩])
                   (.cond (.t 98) (.reg [⟨(some 99), .mv (.t 9), none⟩,
                       ⟨(some 100), .mv (.t 11), none⟩,
                       ⟨(some 101), .buildSl 22 1 1 [(.slice none 0 0)] [(0, 1, (.t 100))], none⟩,
                       ⟨(some 102), .app 22 1 24 (.t 99) (.t 101), none⟩,
                       ⟨(some 9), .mv (.t 102), none⟩]) (.skip))))))))
             (.reg [⟨(some 48), .mv (.t 10), none⟩,
                ⟨(some 49), .bin .add (.t 48) (.c (.int .i64 1)), none⟩,
                ⟨(some 10), .mv (.t 49), none⟩]))))))
        (.seq (.reg [⟨(some 103), .mv (.t 9), none⟩,
            ⟨(some 4), .mv (.t 103), none⟩,
            ⟨(some 5), .mv (.c (.int .i64 0)), none⟩])
         (.ret))))))))
theorem s21_ok : lookF Try.prog 21 = some (s21, 104, [.tmp 4, .tmp 5]) := by kernel_rfl
theorem refUnweave_ok (w form : List Str) : Fn P 21 [sl w, sl form] (.tup [sl (unweaveV w form), intA (unweaveE w form)]) := by
  have hmr := mostL_range form
  (refine fn_look s21_ok (by simp) (by intro k; simp only [go_sem, Nat.reduceEqDiff, ↓reduceIte, reduceCtorEq, Nat.reduceAdd, Nat.reduceMul, Int.reduceToNat, List.reduceReplicate, Nat.reduceLeDiff, Nat.reduceLT, Int.reduceLT, Int.reduceLE, Int.reduceEq]) fun S hS => cwp_sound _ _ _ _ ?_; simp (disch := omega) only [s21, go_sem, Nat.reduceEqDiff, ↓reduceIte, reduceCtorEq, Nat.reduceAdd, Nat.reduceMul, Int.reduceToNat, List.reduceReplicate, Nat.reduceLeDiff, Nat.reduceLT, Int.reduceLT, Int.reduceLE, Int.reduceEq])
  repeat' (first | (with_reducible refine in_seq ?_) | (with_reducible refine in_reg ?_) | (with_reducible refine in_block ?_) | (with_reducible refine in_cond ?_) | (with_reducible refine in_ret ?_) | (with_reducible refine in_skip ?_) | (simp (disch := omega) only [go_sem, Nat.reduceEqDiff, ↓reduceIte, reduceCtorEq, Nat.reduceAdd, Nat.reduceMul, Int.reduceToNat, List.reduceReplicate, Nat.reduceLeDiff, Nat.reduceLT, Int.reduceLT, Int.reduceLE, Int.reduceEq]) | (with_reducible refine giv_intro fun _h => ?_) | (with_reducible refine alt_intro ?_ (fun _h => ?_)) | ((first | with_reducible refine br_dec (fun _h => ?_) (fun _h => ?_) | with_reducible refine br_ndec (fun _h => ?_) (fun _h => ?_)) <;> (first | (exfalso; omega) | simp only [decide_eq_false _h] | simp only [decide_eq_true _h] | skip)) | ((first | with_reducible refine br_not (fun _h => ?_) (fun _h => ?_) | with_reducible refine br_var (fun _h => ?_) (fun _h => ?_)) <;> (try simp only [_h])) | ((with_reducible apply call_lend (Words_ok [w, form])); (focus (simp (disch := omega) only [go_sem, Nat.reduceEqDiff, ↓reduceIte, reduceCtorEq, Nat.reduceAdd, Nat.reduceMul, Int.reduceToNat, List.reduceReplicate, Nat.reduceLeDiff, Nat.reduceLT, Int.reduceLT, Int.reduceLE, Int.reduceEq]; (try rfl); done)); (focus rfl)) | fail)
  · have e : unweaveE w form = wordsErr [w, form] := by rw [unweaveE, if_pos _h]
    rw [unweaveV, e, if_neg (by omega)]; rfl
  (refine loopC hS [0, 1] (by simp only [go_sem, Nat.reduceEqDiff, ↓reduceIte, reduceCtorEq, Nat.reduceAdd, Nat.reduceMul, Int.reduceToNat, List.reduceReplicate, Nat.reduceLeDiff, Nat.reduceLT, Int.reduceLT, Int.reduceLE, Int.reduceEq]; try rfl) (fun (⟨i, m⟩ : Nat × Int) => [(7, intA m), (8, intA i)]) (fun (⟨i, m⟩ : Nat × Int) => [none]) (fun (⟨i, m⟩ : Nat × Int) => i ≤ form.length ∧ 0 ≤ m ∧ mostL form = max m (mostL (form.drop i))) (fun (⟨i, m⟩ : Nat × Int) => form.length - i) ((0, 0)) ?h09 ?hn9 ?rd9; case hn9 => (intro s; first | rfl | (rcases s with ⟨_, _⟩; rfl) | (rcases s with ⟨_, _, _⟩; rfl) | (rcases s with ⟨_, _, _, _⟩; rfl) | (rcases s with ⟨_, _, _, _, _⟩; rfl)))
  · simp (disch := omega) only [go_sem, Nat.reduceEqDiff, ↓reduceIte, reduceCtorEq, Nat.reduceAdd, Nat.reduceMul, Int.reduceToNat, List.reduceReplicate, Nat.reduceLeDiff, Nat.reduceLT, Int.reduceLT, Int.reduceLE, Int.reduceEq]; simp; omega
  rintro ⟨i, m⟩ ⟨hi, hm, hI⟩
  have hdg := digit_range (nth form i)
  repeat' (first | (with_reducible refine in_seq ?_) | (with_reducible refine in_reg ?_) | (with_reducible refine in_block ?_) | (with_reducible refine in_cond ?_) | (with_reducible refine in_ret ?_) | (with_reducible refine in_skip ?_) | (simp (disch := omega) only [go_sem, Nat.reduceEqDiff, ↓reduceIte, reduceCtorEq, Nat.reduceAdd, Nat.reduceMul, Int.reduceToNat, List.reduceReplicate, Nat.reduceLeDiff, Nat.reduceLT, Int.reduceLT, Int.reduceLE, Int.reduceEq]) | (with_reducible refine giv_intro fun _h => ?_) | (with_reducible refine alt_intro ?_ (fun _h => ?_)) | ((first | with_reducible refine br_dec (fun _h => ?_) (fun _h => ?_) | with_reducible refine br_ndec (fun _h => ?_) (fun _h => ?_)) <;> (first | (exfalso; omega) | simp only [decide_eq_false _h] | simp only [decide_eq_true _h] | skip)) | ((first | with_reducible refine br_not (fun _h => ?_) (fun _h => ?_) | with_reducible refine br_var (fun _h => ?_) (fun _h => ?_)) <;> (try simp only [_h])) | ((with_reducible apply call (number_ok _)); (focus (simp (disch := omega) only [go_sem, Nat.reduceEqDiff, ↓reduceIte, reduceCtorEq, Nat.reduceAdd, Nat.reduceMul, Int.reduceToNat, List.reduceReplicate, Nat.reduceLeDiff, Nat.reduceLT, Int.reduceLT, Int.reduceLE, Int.reduceEq]; (try rfl); done))) | fail)
  · refine ⟨(i + 1, _), ⟨by omega, by omega, ?_, ?_⟩, rfl, by omega⟩
    · show 0 ≤ max m _; omega
    · rw [hI, nth_drop (by assumption), mostL]
      show max m (max (digit (nth form i)) (mostL (form.drop (i + 1)))) = max (max m (digit (nth form i))) (mostL (form.drop (i + 1)))
      omega
  all_goals
    have hm2 : m = mostL form := by rw [hI, drop_end (by omega)]; simp only [mostL]; omega
  · have e : unweaveE w form = 4 := by rw [unweaveE, if_neg (by omega), if_pos (by omega)]
    rw [unweaveV, e, if_neg (by omega)]; rfl
  have hf60 := wordErr_len (wordsErr_two.1 (by assumption : wordsErr [w, form] = 0)).2
  refine nil_row 9 22 1 (by simp (disch := omega) only [go_sem, Nat.reduceEqDiff, ↓reduceIte, reduceCtorEq, Nat.reduceAdd, Nat.reduceMul, Int.reduceToNat, List.reduceReplicate, Nat.reduceLeDiff, Nat.reduceLT, Int.reduceLT, Int.reduceLE, Int.reduceEq]) ?_
  (refine loopC hS [0, 1, 7] (by simp only [go_sem, Nat.reduceEqDiff, ↓reduceIte, reduceCtorEq, Nat.reduceAdd, Nat.reduceMul, Int.reduceToNat, List.reduceReplicate, Nat.reduceLeDiff, Nat.reduceLT, Int.reduceLT, Int.reduceLE, Int.reduceEq]; try rfl) (fun (⟨t, out⟩ : Nat × List (List Str)) => [(9, own S 1 out), (10, intA ((t + 1 : Nat) : Int))]) (fun (⟨t, out⟩ : Nat × List (List Str)) => [none, rowO 22 out]) (fun (⟨t, out⟩ : Nat × List (List Str)) => (t : Int) ≤ m ∧ out.length ≤ t ∧ (w.length = form.length ∨ t = 0) ∧ rootsU w form 0 m.toNat = out ++ rootsU w form t (m.toNat - t)) (fun (⟨t, out⟩ : Nat × List (List Str)) => m.toNat - t) ((0, [])) ?h010 ?hn10 ?rd10; case hn10 => (intro s; first | rfl | (rcases s with ⟨_, _⟩; rfl) | (rcases s with ⟨_, _, _⟩; rfl) | (rcases s with ⟨_, _, _, _⟩; rfl) | (rcases s with ⟨_, _, _, _, _⟩; rfl)))
  · simp (disch := omega) only [go_sem, Nat.reduceEqDiff, ↓reduceIte, reduceCtorEq, Nat.reduceAdd, Nat.reduceMul, Int.reduceToNat, List.reduceReplicate, Nat.reduceLeDiff, Nat.reduceLT, Int.reduceLT, Int.reduceLE, Int.reduceEq]; simp; omega
  rintro ⟨t, out⟩ ⟨ht, hol, hwz, hI2⟩
  have step : ∀ b, fitsU w form (t + 1) = b → t < m.toNat → rootsU w form t (m.toNat - t) = (if b = true then [rootU (t + 1) w form] else []) ++ rootsU w form (t + 1) (m.toNat - (t + 1)) := fun b hb h => by
    rw [← hb, show m.toNat - t = (m.toNat - (t + 1)) + 1 by omega, rootsU]
  repeat' (first | (with_reducible refine in_seq ?_) | (with_reducible refine in_reg ?_) | (with_reducible refine in_block ?_) | (with_reducible refine in_cond ?_) | (with_reducible refine in_ret ?_) | (with_reducible refine in_skip ?_) | (simp (disch := omega) only [go_sem, Nat.reduceEqDiff, ↓reduceIte, reduceCtorEq, Nat.reduceAdd, Nat.reduceMul, Int.reduceToNat, List.reduceReplicate, Nat.reduceLeDiff, Nat.reduceLT, Int.reduceLT, Int.reduceLE, Int.reduceEq]) | (with_reducible refine giv_intro fun _h => ?_) | (with_reducible refine alt_intro ?_ (fun _h => ?_)) | ((first | with_reducible refine br_dec (fun _h => ?_) (fun _h => ?_) | with_reducible refine br_ndec (fun _h => ?_) (fun _h => ?_)) <;> (first | (exfalso; omega) | simp only [decide_eq_false _h] | simp only [decide_eq_true _h] | skip)) | ((first | with_reducible refine br_not (fun _h => ?_) (fun _h => ?_) | with_reducible refine br_var (fun _h => ?_) (fun _h => ?_)) <;> (try simp only [_h])) | fail)
  · (refine loopC hS [0, 1, 7, 9, 10, 11] (by simp only [go_sem, Nat.reduceEqDiff, ↓reduceIte, reduceCtorEq, Nat.reduceAdd, Nat.reduceMul, Int.reduceToNat, List.reduceReplicate, Nat.reduceLeDiff, Nat.reduceLT, Int.reduceLT, Int.reduceLE, Int.reduceEq]; try rfl) (fun (⟨k, root⟩ : Nat × List Str) => [(12, intA k)]) (fun (⟨k, root⟩ : Nat × List Str) => [none, rowO 22 out, rowO 9 root]) (fun (⟨k, root⟩ : Nat × List Str) => k ≤ form.length ∧ root.length = t + 1 ∧ rootU (t + 1) w form = rootF (t + 1) (form.drop k) (w.drop k) root) (fun (⟨k, root⟩ : Nat × List Str) => form.length - k) ((0, List.replicate (t + 1) ⟨#[]⟩)) ?h011 ?hn11 ?rd11; case hn11 => (intro s; first | rfl | (rcases s with ⟨_, _⟩; rfl) | (rcases s with ⟨_, _, _⟩; rfl) | (rcases s with ⟨_, _, _, _⟩; rfl) | (rcases s with ⟨_, _, _, _, _⟩; rfl)))
    · simp (disch := omega) only [go_sem, Nat.reduceEqDiff, ↓reduceIte, reduceCtorEq, Nat.reduceAdd, Nat.reduceMul, Int.reduceToNat, List.reduceReplicate, Nat.reduceLeDiff, Nat.reduceLT, Int.reduceLT, Int.reduceLE, Int.reduceEq]
      simp [rootU]
    rintro ⟨k, root⟩ ⟨hk, hrl, hI3⟩
    have hdg := digit_range (nth form k)
    refine in_seq ?_
    repeat' (first | (simp (disch := omega) only [go_sem, Nat.reduceEqDiff, ↓reduceIte, reduceCtorEq, Nat.reduceAdd, Nat.reduceMul, Int.reduceToNat, List.reduceReplicate, Nat.reduceLeDiff, Nat.reduceLT, Int.reduceLT, Int.reduceLE, Int.reduceEq]) | (with_reducible refine giv_intro fun _h => ?_) | (with_reducible refine alt_intro ?_ (fun _h => ?_)) | ((first | with_reducible refine br_dec (fun _h => ?_) (fun _h => ?_) | with_reducible refine br_ndec (fun _h => ?_) (fun _h => ?_)) <;> (first | (exfalso; omega) | simp only [decide_eq_false _h] | simp only [decide_eq_true _h] | skip)) | ((first | with_reducible refine br_not (fun _h => ?_) (fun _h => ?_) | with_reducible refine br_var (fun _h => ?_) (fun _h => ?_)) <;> (try simp only [_h])) | ((with_reducible apply call (number_ok _)); (focus (simp (disch := omega) only [go_sem, Nat.reduceEqDiff, ↓reduceIte, reduceCtorEq, Nat.reduceAdd, Nat.reduceMul, Int.reduceToNat, List.reduceReplicate, Nat.reduceLeDiff, Nat.reduceLT, Int.reduceLT, Int.reduceLE, Int.reduceEq]; (try rfl); done))) | fail)
    · refine ⟨(k + 1, _), ⟨by omega, by omega, ?_, ?_⟩, by omega, rfl⟩
      · rw [tset (by omega), List.length_set]; exact hrl
      · rw [hI3, nth_drop (l := form) (i := k) (by omega), nth_drop (l := w) (i := k) (by omega), rootF, if_pos (by omega), tset (by omega)]
    · refine ⟨(k + 1, _), ⟨by omega, by omega, hrl, ?_⟩, by omega, rfl⟩
      rw [hI3, nth_drop (l := form) (i := k) (by omega), nth_drop (l := w) (i := k) (by omega), rootF, if_neg (by omega)]
    · refine ⟨(k + 1, _), ⟨by omega, by omega, hrl, ?_⟩, by omega, rfl⟩
      rw [hI3, nth_drop (l := form) (i := k) (by omega), nth_drop (l := w) (i := k) (by omega), rootF, if_neg (by omega)]
    · have hr : rootU (t + 1) w form = root := by rw [hI3, drop_end (l := form) (by omega)]; simp [rootF]
      refine freezeF 11 2 9 root (by simp (disch := omega) only [go_sem, Nat.reduceEqDiff, ↓reduceIte, reduceCtorEq, Nat.reduceAdd, Nat.reduceMul, Int.reduceToNat, List.reduceReplicate, Nat.reduceLeDiff, Nat.reduceLT, Int.reduceLT, Int.reduceLE, Int.reduceEq]; simp; omega) (by simp (disch := omega) only [go_sem, Nat.reduceEqDiff, ↓reduceIte, reduceCtorEq, Nat.reduceAdd, Nat.reduceMul, Int.reduceToNat, List.reduceReplicate, Nat.reduceLeDiff, Nat.reduceLT, Int.reduceLT, Int.reduceLE, Int.reduceEq]) (by simp) ?_
      simp only [List.set_cons_zero, List.set_cons_succ]
      repeat' (first | (with_reducible refine in_seq ?_) | (with_reducible refine in_reg ?_) | (with_reducible refine in_block ?_) | (with_reducible refine in_cond ?_) | (with_reducible refine in_ret ?_) | (with_reducible refine in_skip ?_) | (simp (disch := omega) only [go_sem, Nat.reduceEqDiff, ↓reduceIte, reduceCtorEq, Nat.reduceAdd, Nat.reduceMul, Int.reduceToNat, List.reduceReplicate, Nat.reduceLeDiff, Nat.reduceLT, Int.reduceLT, Int.reduceLE, Int.reduceEq]) | (with_reducible refine giv_intro fun _h => ?_) | (with_reducible refine alt_intro ?_ (fun _h => ?_)) | ((first | with_reducible refine br_dec (fun _h => ?_) (fun _h => ?_) | with_reducible refine br_ndec (fun _h => ?_) (fun _h => ?_)) <;> (first | (exfalso; omega) | simp only [decide_eq_false _h] | simp only [decide_eq_true _h] | skip)) | ((first | with_reducible refine br_not (fun _h => ?_) (fun _h => ?_) | with_reducible refine br_var (fun _h => ?_) (fun _h => ?_)) <;> (try simp only [_h])) | fail)
      (refine loopC hS [0, 1, 7, 9, 10, 11] (by simp only [go_sem, Nat.reduceEqDiff, ↓reduceIte, reduceCtorEq, Nat.reduceAdd, Nat.reduceMul, Int.reduceToNat, List.reduceReplicate, Nat.reduceLeDiff, Nat.reduceLT, Int.reduceLT, Int.reduceLE, Int.reduceEq]; try rfl) (fun (⟨j, b⟩ : Nat × Bool) => [(14, boolA b), (15, intA j)]) (fun (⟨j, b⟩ : Nat × Bool) => [none, rowO 22 out, none]) (fun (⟨j, b⟩ : Nat × Bool) => j ≤ t + 1 ∧ (!root.any (fun x => decide ((⟨#[]⟩ : Str) = x))) = (b && !((root.drop j).any (fun x => decide ((⟨#[]⟩ : Str) = x))))) (fun (⟨j, b⟩ : Nat × Bool) => t + 1 - j) ((0, true)) ?h012 ?hn12 ?rd12; case hn12 => (intro s; first | rfl | (rcases s with ⟨_, _⟩; rfl) | (rcases s with ⟨_, _, _⟩; rfl) | (rcases s with ⟨_, _, _, _⟩; rfl) | (rcases s with ⟨_, _, _, _, _⟩; rfl)))
      · simp (disch := omega) only [go_sem, Nat.reduceEqDiff, ↓reduceIte, reduceCtorEq, Nat.reduceAdd, Nat.reduceMul, Int.reduceToNat, List.reduceReplicate, Nat.reduceLeDiff, Nat.reduceLT, Int.reduceLT, Int.reduceLE, Int.reduceEq]
        simp
      rintro ⟨j, b⟩ ⟨hj, hI4⟩
      repeat' (first | (with_reducible refine in_seq ?_) | (with_reducible refine in_reg ?_) | (with_reducible refine in_block ?_) | (with_reducible refine in_cond ?_) | (with_reducible refine in_ret ?_) | (with_reducible refine in_skip ?_) | (simp (disch := omega) only [go_sem, Nat.reduceEqDiff, ↓reduceIte, reduceCtorEq, Nat.reduceAdd, Nat.reduceMul, Int.reduceToNat, List.reduceReplicate, Nat.reduceLeDiff, Nat.reduceLT, Int.reduceLT, Int.reduceLE, Int.reduceEq]) | (with_reducible refine giv_intro fun _h => ?_) | (with_reducible refine alt_intro ?_ (fun _h => ?_)) | ((first | with_reducible refine br_dec (fun _h => ?_) (fun _h => ?_) | with_reducible refine br_ndec (fun _h => ?_) (fun _h => ?_)) <;> (first | (exfalso; omega) | simp only [decide_eq_false _h] | simp only [decide_eq_true _h] | skip)) | ((first | with_reducible refine br_not (fun _h => ?_) (fun _h => ?_) | with_reducible refine br_var (fun _h => ?_) (fun _h => ?_)) <;> (try simp only [_h])) | ((with_reducible apply call (weave_ok root form (by omega) (by omega))); (focus (simp (disch := omega) only [go_sem, Nat.reduceEqDiff, ↓reduceIte, reduceCtorEq, Nat.reduceAdd, Nat.reduceMul, Int.reduceToNat, List.reduceReplicate, Nat.reduceLeDiff, Nat.reduceLT, Int.reduceLT, Int.reduceLE, Int.reduceEq]; (try rfl); done))) | ((with_reducible apply call (Same_ok _ _)); (focus (simp (disch := omega) only [go_sem, Nat.reduceEqDiff, ↓reduceIte, reduceCtorEq, Nat.reduceAdd, Nat.reduceMul, Int.reduceToNat, List.reduceReplicate, Nat.reduceLeDiff, Nat.reduceLT, Int.reduceLT, Int.reduceLE, Int.reduceEq]; (try rfl); done))) | fail)
      · refine ⟨(j + 1, _), ⟨by omega, by omega, ?_⟩, rfl, by omega⟩
        rw [hI4, _h, nth_drop (l := root) (i := j) (by omega), List.any_cons, Bool.not_or, Bool.true_and]
        congr 2
        simp [eq_comm]
      · refine ⟨(j + 1, _), ⟨by omega, by omega, ?_⟩, rfl, by omega⟩
        rw [hI4, _h]; simp
      all_goals
        have hb : (!root.any (fun x => decide ((⟨#[]⟩ : Str) = x))) = b := by rw [hI4, drop_end (by omega)]; simp
      · rename_i hc
        refine ⟨(t + 1, _), ⟨by omega, by omega, by simp; omega, .inl (by omega), ?_⟩, ⟨by simp, by omega⟩, rfl⟩
        rw [hI2, step true (by rw [fitsU, hr, hb, hc, decide_eq_true _h]; rfl) (by omega), hr]; simp
      · rename_i hc
        refine ⟨(t + 1, _), ⟨by omega, by omega, by simp; omega, .inl (by omega), ?_⟩, ⟨by simp, by omega⟩, rfl⟩
        rw [hI2, step false (by rw [fitsU, hr, decide_eq_false _h, Bool.and_false]) (by omega)]; simp
      · refine ⟨(t + 1, _), ⟨by omega, by omega, by simp; omega, .inl (by omega), ?_⟩, ⟨by simp, by omega⟩, rfl⟩
        rw [hI2, step false (by rw [fitsU, hr, hb, _h]; rfl) (by omega)]; simp
  all_goals
    have e : unweaveE w form = 0 := by rw [unweaveE, if_neg (by omega), if_neg (by omega)]
  · have ht0 : t = 0 := by omega
    subst ht0
    have : out = [] := List.eq_nil_of_length_eq_zero (by omega)
    rw [unweaveV, e, if_neg (by omega), this]
  · have hm3 : m.toNat = t := by omega
    rw [unweaveV, e, ← hm2]
    rcases hwz with hwz | hwz
    · rw [if_pos ⟨rfl, hwz⟩, hI2, hm3]; simp [rootsU]
    · omega

/-- ablaut/ablautlaw13.HarmWeaves: 3 parameters, 0 captured -/
def s3 : SC := .seq (.reg [⟨(some 6), .mv (.c (.bool false)), none⟩])
  (.seq (.seq (.reg [⟨(some 15), .mv (.t 0), none⟩,
       ⟨(some 16), .mv (.t 1), none⟩,
       ⟨(some 17), .mv (.t 2), none⟩,
       ⟨(some 18), .buildSl 22 1 3 [(.slice none 0 0)] [(0, 1, (.t 15)), (1, 1, (.t 16)), (2, 1, (.t 17))], none⟩,
       ⟨(some 19), .call (.f 16) [(.t 18)], none⟩,
       ⟨(some 20), .bin .gtr (.t 19) (.c (.int .i64 32000)), none⟩])
    (.cond (.t 20) (.seq (.reg [⟨(some 21), .call (.f 17) [], none⟩,
         ⟨(some 6), .mv (.t 21), none⟩])
      (.ret)) (.skip)))
   (.seq (.reg [⟨(some 23), .mv (.t 0), none⟩,
       ⟨(some 24), .mv (.t 1), none⟩,
       ⟨(some 25), .call (.f 18) [(.t 23), (.t 24)], none⟩,
       ⟨(some 22), .mv (.t 25), none⟩,
       ⟨(some 26), .ext (.t 22) 0, none⟩,
       ⟨(some 27), .ext (.t 22) 1, none⟩,
       ⟨(some 7), .mv (.t 26), none⟩,
       ⟨(some 8), .mv (.t 27), none⟩])
    (.seq (.reg [⟨(some 29), .mv (.t 0), none⟩,
        ⟨(some 30), .mv (.t 1), none⟩,
        ⟨(some 31), .call (.f 19) [(.t 29), (.t 30)], none⟩,
        ⟨(some 28), .mv (.t 31), none⟩,
        ⟨(some 32), .ext (.t 28) 0, none⟩,
        ⟨(some 33), .ext (.t 28) 1, none⟩,
        ⟨(some 9), .mv (.t 32), none⟩,
        ⟨(some 10), .mv (.t 33), none⟩])
     (.seq (.reg [⟨(some 35), .mv (.t 2), none⟩,
         ⟨(some 36), .mv (.t 1), none⟩,
         ⟨(some 37), .call (.f 20) [(.t 35), (.t 36)], none⟩,
         ⟨(some 34), .mv (.t 37), none⟩,
         ⟨(some 38), .ext (.t 34) 0, none⟩,
         ⟨(some 39), .ext (.t 34) 1, none⟩,
         ⟨(some 11), .mv (.t 38), none⟩,
         ⟨(some 12), .mv (.t 39), none⟩])
      (.seq (.reg [⟨(some 41), .mv (.t 2), none⟩,
          ⟨(some 42), .mv (.t 1), none⟩,
          ⟨(some 43), .call (.f 21) [(.t 41), (.t 42)], none⟩,
          ⟨(some 40), .mv (.t 43), none⟩,
          ⟨(some 44), .ext (.t 40) 0, none⟩,
          ⟨(some 45), .ext (.t 40) 1, none⟩,
          ⟨(some 13), .mv (.t 44), none⟩,
          ⟨(some 14), .mv (.t 45), none⟩])
       (.seq (.reg [⟨(some 46), .mv (.t 7), none⟩,
           ⟨(some 47), .mv (.t 9), none⟩,
           ⟨(some 48), .call (.f 22) [(.t 46), (.t 47)], none⟩,
           ⟨(some 49), .mv (.t 48), none⟩,
           ⟨(some 50), .mv (.t 8), some (49, true)⟩,
           ⟨(some 51), .mv (.t 10), some (49, true)⟩,
           ⟨(some 52), .bin .eql (.t 50) (.t 51), some (49, true)⟩,
           ⟨(some 53), .pick (.t 49) (.t 52) (.c (.bool false)), none⟩,
           ⟨(some 54), .mv (.t 53), none⟩,
           ⟨(some 55), .mv (.t 11), some (54, true)⟩,
           ⟨(some 56), .mv (.t 13), some (54, true)⟩,
           ⟨(some 57), .call (.f 23) [(.t 55), (.t 56)], some (54, true)⟩,
           ⟨(some 58), .pick (.t 54) (.t 57) (.c (.bool false)), none⟩,
           ⟨(some 59), .mv (.t 58), none⟩,
           ⟨(some 60), .mv (.t 12), some (59, true)⟩,
           ⟨(some 61), .mv (.t 14), some (59, true)⟩,
           ⟨(some 62), .bin .eql (.t 60) (.t 61), some (59, true)⟩,
           ⟨(some 63), .pick (.t 59) (.t 62) (.c (.bool false)), none⟩,
           ⟨(some 64), .mv (.t 63), none⟩,
           ⟨(some 65), .call (.f 17) [], some (64, true)⟩,
           ⟨(some 66), .pick (.t 64) (.t 65) (.c (.bool false)), none⟩,
           ⟨(some 6), .mv (.t 66), none⟩])
        (.ret)))))))
theorem s3_ok : lookF Try.prog 3 = some (s3, 67, [.tmp 6]) := by kernel_rfl
theorem HarmWeaves_ok (root form w : List Str) : Fn P 3 [sl root, sl form, sl w] (boolA true) := by
  (refine fn_look s3_ok (by simp) (by intro k; simp only [go_sem, Nat.reduceEqDiff, ↓reduceIte, reduceCtorEq, Nat.reduceAdd, Nat.reduceMul, Int.reduceToNat, List.reduceReplicate, Nat.reduceLeDiff, Nat.reduceLT, Int.reduceLT, Int.reduceLE, Int.reduceEq]) fun S hS => cwp_sound _ _ _ _ ?_; simp (disch := omega) only [s3, go_sem, Nat.reduceEqDiff, ↓reduceIte, reduceCtorEq, Nat.reduceAdd, Nat.reduceMul, Int.reduceToNat, List.reduceReplicate, Nat.reduceLeDiff, Nat.reduceLT, Int.reduceLT, Int.reduceLE, Int.reduceEq])
  apply callR_lend (bytes_ok [root, form, w] (by simp))
  · simp (disch := omega) only [go_sem, Nat.reduceEqDiff, ↓reduceIte, reduceCtorEq, Nat.reduceAdd, Nat.reduceMul, Int.reduceToNat, List.reduceReplicate, Nat.reduceLeDiff, Nat.reduceLT, Int.reduceLT, Int.reduceLE, Int.reduceEq]; rfl
  · rintro _ ⟨n, rfl⟩; rfl
  rintro _ ⟨n, rfl⟩
  repeat' (first | (with_reducible refine in_seq ?_) | (with_reducible refine in_reg ?_) | (with_reducible refine in_block ?_) | (with_reducible refine in_cond ?_) | (with_reducible refine in_ret ?_) | (with_reducible refine in_skip ?_) | (simp (disch := omega) only [go_sem, Nat.reduceEqDiff, ↓reduceIte, reduceCtorEq, Nat.reduceAdd, Nat.reduceMul, Int.reduceToNat, List.reduceReplicate, Nat.reduceLeDiff, Nat.reduceLT, Int.reduceLT, Int.reduceLE, Int.reduceEq]) | (with_reducible refine giv_intro fun _h => ?_) | (with_reducible refine alt_intro ?_ (fun _h => ?_)) | ((first | with_reducible refine br_dec (fun _h => ?_) (fun _h => ?_) | with_reducible refine br_ndec (fun _h => ?_) (fun _h => ?_)) <;> (first | (exfalso; omega) | simp only [decide_eq_false _h] | simp only [decide_eq_true _h] | skip)) | ((first | with_reducible refine br_not (fun _h => ?_) (fun _h => ?_) | with_reducible refine br_var (fun _h => ?_) (fun _h => ?_)) <;> (try simp only [_h])) | ((with_reducible apply call (known_ok)); (focus (simp (disch := omega) only [go_sem, Nat.reduceEqDiff, ↓reduceIte, reduceCtorEq, Nat.reduceAdd, Nat.reduceMul, Int.reduceToNat, List.reduceReplicate, Nat.reduceLeDiff, Nat.reduceLT, Int.reduceLT, Int.reduceLE, Int.reduceEq]; (try rfl); done))) | ((with_reducible apply call (Weave_ok _ _)); (focus (simp (disch := omega) only [go_sem, Nat.reduceEqDiff, ↓reduceIte, reduceCtorEq, Nat.reduceAdd, Nat.reduceMul, Int.reduceToNat, List.reduceReplicate, Nat.reduceLeDiff, Nat.reduceLT, Int.reduceLT, Int.reduceLE, Int.reduceEq]; (try rfl); done))) | ((with_reducible apply call (refWeave_ok _ _)); (focus (simp (disch := omega) only [go_sem, Nat.reduceEqDiff, ↓reduceIte, reduceCtorEq, Nat.reduceAdd, Nat.reduceMul, Int.reduceToNat, List.reduceReplicate, Nat.reduceLeDiff, Nat.reduceLT, Int.reduceLT, Int.reduceLE, Int.reduceEq]; (try rfl); done))) | ((with_reducible apply call (Unweave_ok _ _)); (focus (simp (disch := omega) only [go_sem, Nat.reduceEqDiff, ↓reduceIte, reduceCtorEq, Nat.reduceAdd, Nat.reduceMul, Int.reduceToNat, List.reduceReplicate, Nat.reduceLeDiff, Nat.reduceLT, Int.reduceLT, Int.reduceLE, Int.reduceEq]; (try rfl); done))) | ((with_reducible apply call (refUnweave_ok _ _)); (focus (simp (disch := omega) only [go_sem, Nat.reduceEqDiff, ↓reduceIte, reduceCtorEq, Nat.reduceAdd, Nat.reduceMul, Int.reduceToNat, List.reduceReplicate, Nat.reduceLeDiff, Nat.reduceLT, Int.reduceLT, Int.reduceLE, Int.reduceEq]; (try rfl); done))) | ((with_reducible apply call (Same_ok _ _)); (focus (simp (disch := omega) only [go_sem, Nat.reduceEqDiff, ↓reduceIte, reduceCtorEq, Nat.reduceAdd, Nat.reduceMul, Int.reduceToNat, List.reduceReplicate, Nat.reduceLeDiff, Nat.reduceLT, Int.reduceLT, Int.reduceLE, Int.reduceEq]; (try rfl); done))) | ((with_reducible apply call (SameWords_ok _ _)); (focus (simp (disch := omega) only [go_sem, Nat.reduceEqDiff, ↓reduceIte, reduceCtorEq, Nat.reduceAdd, Nat.reduceMul, Int.reduceToNat, List.reduceReplicate, Nat.reduceLeDiff, Nat.reduceLT, Int.reduceLT, Int.reduceLE, Int.reduceEq]; (try rfl); done))) | fail)
end Go.Proofs.Ytpfoflhhbkjngaa.Ev

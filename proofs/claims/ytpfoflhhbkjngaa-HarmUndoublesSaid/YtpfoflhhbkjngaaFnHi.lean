/- Two words joined: Sandhi by both; the law HarmJoins. -/
import Derived.Test.YtpfoflhhbkjngaaFnHh
set_option linter.unusedVariables false
set_option linter.unusedSimpArgs false
namespace Go.Proofs.Ytpfoflhhbkjngaa.Ev
open Go Go.Proofs

def sandE (l : List Joint) (a b : List Str) : Int := if firstE [jntErr l, wordsErr [a, b]] ≠ 0 then firstE [jntErr l, wordsErr [a, b]] else heldE (joinL l a b)
def sandV (l : List Joint) (a b : List Str) : List Str := if firstE [jntErr l, wordsErr [a, b]] ≠ 0 then [] else heldV (joinL l a b)
theorem jnt_good {l : List Joint} (h : jntErr l = 0) : (∀ j ∈ l, j.1.length ≤ 1000 ∧ j.2.1.length ≤ 1000 ∧ j.2.2.length ≤ 1000) ∧ ∀ j ∈ l, 0 < wtJ j := by
  unfold jntErr at h
  split at h
  · cases h
  · split at h
    · rename_i h1; exact absurd h h1
    · split at h
      · cases h
      · rename_i h1 h2 h3
        refine ⟨fun j hj => by have := jnt_len (l := l) (by omega) hj; omega, fun j hj => ?_⟩
        rcases Nat.eq_zero_or_pos (wtJ j) with h4 | h4
        · exact absurd (List.any_eq_true.2 ⟨j, hj, decide_eq_true h4⟩) h3
        · exact h4
/-- ablaut/harm.Sandhi: 3 parameters, 0 captured -/
def s31 : SC := .seq (.reg [⟨(some 6), .mv (.c (.slice none 0 0)), none⟩,
     ⟨(some 7), .mv (.c (.int .i64 0)), none⟩])
  (.seq (.seq (.reg [⟨(some 9), .mv (.t 0), none⟩,
       ⟨(some 10), .call (.f 67) [(.t 9)], none⟩,
       ⟨(some 11), .mv (.t 1), none⟩,
       ⟨(some 12), .mv (.t 2), none⟩,
       ⟨(some 13), .buildSl 22 1 2 [(.slice none 0 0)] [(0, 1, (.t 11)), (1, 1, (.t 12))], none⟩,
       ⟨(some 14), .call (.f 53) [(.t 13)], none⟩,
       ⟨(some 15), .buildSl 25 1 2 [(.int .i64 0)] [(0, 1, (.t 10)), (1, 1, (.t 14))], none⟩,
       ⟨(some 16), .call (.f 62) [(.t 15)], none⟩,
       ⟨(some 8), .mv (.t 16), none⟩])
    (.seq (.reg [⟨(some 17), .mv (.t 8), none⟩,
        ⟨(some 18), .bin .neq (.t 17) (.c (.int .i64 0)), none⟩])
     (.cond (.t 18) (.seq (.reg [⟨(some 19), .mv (.t 8), none⟩,
          ⟨(some 6), .mv (.c (.slice none 0 0)), none⟩,
          ⟨(some 7), .mv (.t 19), none⟩])
       (.ret)) (.skip))))
   (.seq (.reg [⟨(some 20), .mv (.t 0), none⟩,
       ⟨(some 21), .mv (.t 1), none⟩,
       ⟨(some 22), .mv (.t 2), none⟩,
       ⟨(some 23), .call (.f 69) [(.t 20), (.t 21), (.t 22)], none⟩,
       ⟨(some 24), .call (.f 68) [(.t 23)], none⟩,
       ⟨(some 25), .ext (.t 24) 0, none⟩,
       ⟨(some 26), .ext (.t 24) 1, none⟩,
       ⟨(some 6), .mv (.t 25), none⟩,
       ⟨(some 7), .mv (.t 26), none⟩])
    (.ret)))
theorem s31_ok : lookF Try.prog 31 = some (s31, 27, [.tmp 6, .tmp 7]) := by kernel_rfl
theorem hSandhi_ok (l : List Joint) (a b : List Str) : Fn P 31 [sl l, sl a, sl b] (.tup [sl (sandV l a b), intA (sandE l a b)]) := by
  have c1 := hJoints_ok l
  have c2 := words_ok [a, b]
  have c3 := first_ok [jntErr l, wordsErr [a, b]]
  by_cases h : firstE [jntErr l, wordsErr [a, b]] = 0
  · have h1 := two_zero h
    have h2 := wordsErr_two.1 h1.2
    have b1 := wordErr_len h2.1
    have b2 := wordErr_len h2.2
    have hg := jnt_good h1.1
    have c4 := joined_ok l a b hg.1 (by omega) (by omega)
    have c5 := held_ok (joinL l a b)
    rw [sandV, sandE, if_neg (by omega), if_neg (by omega)]
    rw [h] at c3
    (refine fn_look s31_ok (by simp) (by intro k; simp only [go_sem, Nat.reduceEqDiff, ↓reduceIte, reduceCtorEq, Nat.reduceAdd, Nat.reduceMul, Int.reduceToNat, List.reduceReplicate, Nat.reduceLeDiff, Nat.reduceLT, Int.reduceLT, Int.reduceLE, Int.reduceEq]) fun S hS => cwp_sound _ _ _ _ ?_; simp (disch := omega) only [s31, go_sem, Nat.reduceEqDiff, ↓reduceIte, reduceCtorEq, Nat.reduceAdd, Nat.reduceMul, Int.reduceToNat, List.reduceReplicate, Nat.reduceLeDiff, Nat.reduceLT, Int.reduceLT, Int.reduceLE, Int.reduceEq])
    repeat' (first | (with_reducible refine in_seq ?_) | (with_reducible refine in_reg ?_) | (with_reducible refine in_block ?_) | (with_reducible refine in_cond ?_) | (with_reducible refine in_ret ?_) | (with_reducible refine in_skip ?_) | (simp (disch := omega) only [go_sem, Nat.reduceEqDiff, ↓reduceIte, reduceCtorEq, Nat.reduceAdd, Nat.reduceMul, Int.reduceToNat, List.reduceReplicate, Nat.reduceLeDiff, Nat.reduceLT, Int.reduceLT, Int.reduceLE, Int.reduceEq]) | (with_reducible refine giv_intro fun _h => ?_) | (with_reducible refine alt_intro ?_ (fun _h => ?_)) | ((first | with_reducible refine br_dec (fun _h => ?_) (fun _h => ?_) | with_reducible refine br_ndec (fun _h => ?_) (fun _h => ?_)) <;> (first | (exfalso; omega) | simp only [decide_eq_false _h] | simp only [decide_eq_true _h] | skip)) | ((first | with_reducible refine br_not (fun _h => ?_) (fun _h => ?_) | with_reducible refine br_var (fun _h => ?_) (fun _h => ?_)) <;> (try simp only [_h])) | ((with_reducible apply call (c1)); (focus (simp (disch := omega) only [go_sem, Nat.reduceEqDiff, ↓reduceIte, reduceCtorEq, Nat.reduceAdd, Nat.reduceMul, Int.reduceToNat, List.reduceReplicate, Nat.reduceLeDiff, Nat.reduceLT, Int.reduceLT, Int.reduceLE, Int.reduceEq]; (try rfl); done))) | ((with_reducible apply call_lend (c2)); (focus (simp (disch := omega) only [go_sem, Nat.reduceEqDiff, ↓reduceIte, reduceCtorEq, Nat.reduceAdd, Nat.reduceMul, Int.reduceToNat, List.reduceReplicate, Nat.reduceLeDiff, Nat.reduceLT, Int.reduceLT, Int.reduceLE, Int.reduceEq]; (try rfl); done)); (focus rfl)) | ((with_reducible apply call_lend (c3)); (focus (simp (disch := omega) only [go_sem, Nat.reduceEqDiff, ↓reduceIte, reduceCtorEq, Nat.reduceAdd, Nat.reduceMul, Int.reduceToNat, List.reduceReplicate, Nat.reduceLeDiff, Nat.reduceLT, Int.reduceLT, Int.reduceLE, Int.reduceEq]; (try rfl); done)); (focus rfl)) | ((with_reducible apply call (c4)); (focus (simp (disch := omega) only [go_sem, Nat.reduceEqDiff, ↓reduceIte, reduceCtorEq, Nat.reduceAdd, Nat.reduceMul, Int.reduceToNat, List.reduceReplicate, Nat.reduceLeDiff, Nat.reduceLT, Int.reduceLT, Int.reduceLE, Int.reduceEq]; (try rfl); done))) | ((with_reducible apply call (c5)); (focus (simp (disch := omega) only [go_sem, Nat.reduceEqDiff, ↓reduceIte, reduceCtorEq, Nat.reduceAdd, Nat.reduceMul, Int.reduceToNat, List.reduceReplicate, Nat.reduceLeDiff, Nat.reduceLT, Int.reduceLT, Int.reduceLE, Int.reduceEq]; (try rfl); done))) | fail)
  · rw [sandV, sandE, if_pos h, if_pos h]
    generalize firstE [jntErr l, wordsErr [a, b]] = e at *
    (refine fn_look s31_ok (by simp) (by intro k; simp only [go_sem, Nat.reduceEqDiff, ↓reduceIte, reduceCtorEq, Nat.reduceAdd, Nat.reduceMul, Int.reduceToNat, List.reduceReplicate, Nat.reduceLeDiff, Nat.reduceLT, Int.reduceLT, Int.reduceLE, Int.reduceEq]) fun S hS => cwp_sound _ _ _ _ ?_; simp (disch := omega) only [s31, go_sem, Nat.reduceEqDiff, ↓reduceIte, reduceCtorEq, Nat.reduceAdd, Nat.reduceMul, Int.reduceToNat, List.reduceReplicate, Nat.reduceLeDiff, Nat.reduceLT, Int.reduceLT, Int.reduceLE, Int.reduceEq])
    repeat' (first | (with_reducible refine in_seq ?_) | (with_reducible refine in_reg ?_) | (with_reducible refine in_block ?_) | (with_reducible refine in_cond ?_) | (with_reducible refine in_ret ?_) | (with_reducible refine in_skip ?_) | (simp (disch := omega) only [go_sem, Nat.reduceEqDiff, ↓reduceIte, reduceCtorEq, Nat.reduceAdd, Nat.reduceMul, Int.reduceToNat, List.reduceReplicate, Nat.reduceLeDiff, Nat.reduceLT, Int.reduceLT, Int.reduceLE, Int.reduceEq]) | (with_reducible refine giv_intro fun _h => ?_) | (with_reducible refine alt_intro ?_ (fun _h => ?_)) | ((first | with_reducible refine br_dec (fun _h => ?_) (fun _h => ?_) | with_reducible refine br_ndec (fun _h => ?_) (fun _h => ?_)) <;> (first | (exfalso; omega) | simp only [decide_eq_false _h] | simp only [decide_eq_true _h] | skip)) | ((first | with_reducible refine br_not (fun _h => ?_) (fun _h => ?_) | with_reducible refine br_var (fun _h => ?_) (fun _h => ?_)) <;> (try simp only [_h])) | ((with_reducible apply call (c1)); (focus (simp (disch := omega) only [go_sem, Nat.reduceEqDiff, ↓reduceIte, reduceCtorEq, Nat.reduceAdd, Nat.reduceMul, Int.reduceToNat, List.reduceReplicate, Nat.reduceLeDiff, Nat.reduceLT, Int.reduceLT, Int.reduceLE, Int.reduceEq]; (try rfl); done))) | ((with_reducible apply call_lend (c2)); (focus (simp (disch := omega) only [go_sem, Nat.reduceEqDiff, ↓reduceIte, reduceCtorEq, Nat.reduceAdd, Nat.reduceMul, Int.reduceToNat, List.reduceReplicate, Nat.reduceLeDiff, Nat.reduceLT, Int.reduceLT, Int.reduceLE, Int.reduceEq]; (try rfl); done)); (focus rfl)) | ((with_reducible apply call_lend (c3)); (focus (simp (disch := omega) only [go_sem, Nat.reduceEqDiff, ↓reduceIte, reduceCtorEq, Nat.reduceAdd, Nat.reduceMul, Int.reduceToNat, List.reduceReplicate, Nat.reduceLeDiff, Nat.reduceLT, Int.reduceLT, Int.reduceLE, Int.reduceEq]; (try rfl); done)); (focus rfl)) | fail)
    rfl
/-- ablaut/ablautref13.Sandhi: 3 parameters, 0 captured -/
def s32 : SC := .seq (.reg [⟨(some 6), .mv (.c (.slice none 0 0)), none⟩,
     ⟨(some 7), .mv (.c (.int .i64 0)), none⟩])
  (.seq (.seq (.reg [⟨(some 10), .mv (.t 0), none⟩,
       ⟨(some 11), .call (.f 70) [(.t 10)], none⟩,
       ⟨(some 8), .mv (.t 11), none⟩])
    (.seq (.reg [⟨(some 12), .mv (.t 8), none⟩,
        ⟨(some 13), .bin .neq (.t 12) (.c (.int .i64 0)), none⟩])
     (.cond (.t 13) (.seq (.reg [⟨(some 14), .mv (.t 8), none⟩,
          ⟨(some 6), .mv (.c (.slice none 0 0)), none⟩,
          ⟨(some 7), .mv (.t 14), none⟩])
       (.ret)) (.skip))))
   (.seq (.seq (.reg [⟨(some 15), .mv (.t 1), none⟩,
        ⟨(some 16), .mv (.t 2), none⟩,
        ⟨(some 17), .buildSl 22 1 2 [(.slice none 0 0)] [(0, 1, (.t 15)), (1, 1, (.t 16))], none⟩,
        ⟨(some 18), .call (.f 55) [(.t 17)], none⟩,
        ⟨(some 9), .mv (.t 18), none⟩])
     (.seq (.reg [⟨(some 19), .mv (.t 9), none⟩,
         ⟨(some 20), .bin .neq (.t 19) (.c (.int .i64 0)), none⟩])
      (.cond (.t 20) (.seq (.reg [⟨(some 21), .mv (.t 9), none⟩,
           ⟨(some 6), .mv (.c (.slice none 0 0)), none⟩,
           ⟨(some 7), .mv (.t 21), none⟩])
        (.ret)) (.skip))))
    (.seq (.reg [⟨(some 22), .mv (.t 0), none⟩,
        ⟨(some 23), .mv (.t 1), none⟩,
        ⟨(some 24), .mv (.t 2), none⟩,
        ⟨(some 25), .call (.f 72) [(.t 22), (.t 23), (.t 24)], none⟩,
        ⟨(some 26), .call (.f 71) [(.t 25)], none⟩,
        ⟨(some 27), .ext (.t 26) 0, none⟩,
        ⟨(some 28), .ext (.t 26) 1, none⟩,
        ⟨(some 6), .mv (.t 27), none⟩,
        ⟨(some 7), .mv (.t 28), none⟩])
     (.ret))))
theorem s32_ok : lookF Try.prog 32 = some (s32, 29, [.tmp 6, .tmp 7]) := by kernel_rfl
theorem rSandhi_ok (l : List Joint) (a b : List Str) : Fn P 32 [sl l, sl a, sl b] (.tup [sl (sandV l a b), intA (sandE l a b)]) := by
  have c1 := rJoints_ok l
  have c2 := Words_ok [a, b]
  by_cases h : firstE [jntErr l, wordsErr [a, b]] = 0
  · have h1 := two_zero h
    have h2 := wordsErr_two.1 h1.2
    have b1 := wordErr_len h2.1
    have b2 := wordErr_len h2.2
    have hg := jnt_good h1.1
    have c4 := sandhi_ok l a b hg.1 hg.2 (by omega) (by omega)
    have c5 := short_ok (joinL l a b)
    rw [sandV, sandE, if_neg (by omega), if_neg (by omega)]
    rw [h1.1] at c1
    rw [h1.2] at c2
    (refine fn_look s32_ok (by simp) (by intro k; simp only [go_sem, Nat.reduceEqDiff, ↓reduceIte, reduceCtorEq, Nat.reduceAdd, Nat.reduceMul, Int.reduceToNat, List.reduceReplicate, Nat.reduceLeDiff, Nat.reduceLT, Int.reduceLT, Int.reduceLE, Int.reduceEq]) fun S hS => cwp_sound _ _ _ _ ?_; simp (disch := omega) only [s32, go_sem, Nat.reduceEqDiff, ↓reduceIte, reduceCtorEq, Nat.reduceAdd, Nat.reduceMul, Int.reduceToNat, List.reduceReplicate, Nat.reduceLeDiff, Nat.reduceLT, Int.reduceLT, Int.reduceLE, Int.reduceEq])
    repeat' (first | (with_reducible refine in_seq ?_) | (with_reducible refine in_reg ?_) | (with_reducible refine in_block ?_) | (with_reducible refine in_cond ?_) | (with_reducible refine in_ret ?_) | (with_reducible refine in_skip ?_) | (simp (disch := omega) only [go_sem, Nat.reduceEqDiff, ↓reduceIte, reduceCtorEq, Nat.reduceAdd, Nat.reduceMul, Int.reduceToNat, List.reduceReplicate, Nat.reduceLeDiff, Nat.reduceLT, Int.reduceLT, Int.reduceLE, Int.reduceEq]) | (with_reducible refine giv_intro fun _h => ?_) | (with_reducible refine alt_intro ?_ (fun _h => ?_)) | ((first | with_reducible refine br_dec (fun _h => ?_) (fun _h => ?_) | with_reducible refine br_ndec (fun _h => ?_) (fun _h => ?_)) <;> (first | (exfalso; omega) | simp only [decide_eq_false _h] | simp only [decide_eq_true _h] | skip)) | ((first | with_reducible refine br_not (fun _h => ?_) (fun _h => ?_) | with_reducible refine br_var (fun _h => ?_) (fun _h => ?_)) <;> (try simp only [_h])) | ((with_reducible apply call (c1)); (focus (simp (disch := omega) only [go_sem, Nat.reduceEqDiff, ↓reduceIte, reduceCtorEq, Nat.reduceAdd, Nat.reduceMul, Int.reduceToNat, List.reduceReplicate, Nat.reduceLeDiff, Nat.reduceLT, Int.reduceLT, Int.reduceLE, Int.reduceEq]; (try rfl); done))) | ((with_reducible apply call_lend (c2)); (focus (simp (disch := omega) only [go_sem, Nat.reduceEqDiff, ↓reduceIte, reduceCtorEq, Nat.reduceAdd, Nat.reduceMul, Int.reduceToNat, List.reduceReplicate, Nat.reduceLeDiff, Nat.reduceLT, Int.reduceLT, Int.reduceLE, Int.reduceEq]; (try rfl); done)); (focus rfl)) | ((with_reducible apply call (c4)); (focus (simp (disch := omega) only [go_sem, Nat.reduceEqDiff, ↓reduceIte, reduceCtorEq, Nat.reduceAdd, Nat.reduceMul, Int.reduceToNat, List.reduceReplicate, Nat.reduceLeDiff, Nat.reduceLT, Int.reduceLT, Int.reduceLE, Int.reduceEq]; (try rfl); done))) | ((with_reducible apply call (c5)); (focus (simp (disch := omega) only [go_sem, Nat.reduceEqDiff, ↓reduceIte, reduceCtorEq, Nat.reduceAdd, Nat.reduceMul, Int.reduceToNat, List.reduceReplicate, Nat.reduceLeDiff, Nat.reduceLT, Int.reduceLT, Int.reduceLE, Int.reduceEq]; (try rfl); done))) | fail)
  · rw [sandV, sandE, if_pos h, if_pos h]
    rw [firstTwo] at h ⊢
    generalize jntErr l = e1 at *
    generalize wordsErr [a, b] = e2 at *
    by_cases h3 : e1 = 0
    · rw [if_neg (by omega)] at h ⊢
      (refine fn_look s32_ok (by simp) (by intro k; simp only [go_sem, Nat.reduceEqDiff, ↓reduceIte, reduceCtorEq, Nat.reduceAdd, Nat.reduceMul, Int.reduceToNat, List.reduceReplicate, Nat.reduceLeDiff, Nat.reduceLT, Int.reduceLT, Int.reduceLE, Int.reduceEq]) fun S hS => cwp_sound _ _ _ _ ?_; simp (disch := omega) only [s32, go_sem, Nat.reduceEqDiff, ↓reduceIte, reduceCtorEq, Nat.reduceAdd, Nat.reduceMul, Int.reduceToNat, List.reduceReplicate, Nat.reduceLeDiff, Nat.reduceLT, Int.reduceLT, Int.reduceLE, Int.reduceEq])
      repeat' (first | (with_reducible refine in_seq ?_) | (with_reducible refine in_reg ?_) | (with_reducible refine in_block ?_) | (with_reducible refine in_cond ?_) | (with_reducible refine in_ret ?_) | (with_reducible refine in_skip ?_) | (simp (disch := omega) only [go_sem, Nat.reduceEqDiff, ↓reduceIte, reduceCtorEq, Nat.reduceAdd, Nat.reduceMul, Int.reduceToNat, List.reduceReplicate, Nat.reduceLeDiff, Nat.reduceLT, Int.reduceLT, Int.reduceLE, Int.reduceEq]) | (with_reducible refine giv_intro fun _h => ?_) | (with_reducible refine alt_intro ?_ (fun _h => ?_)) | ((first | with_reducible refine br_dec (fun _h => ?_) (fun _h => ?_) | with_reducible refine br_ndec (fun _h => ?_) (fun _h => ?_)) <;> (first | (exfalso; omega) | simp only [decide_eq_false _h] | simp only [decide_eq_true _h] | skip)) | ((first | with_reducible refine br_not (fun _h => ?_) (fun _h => ?_) | with_reducible refine br_var (fun _h => ?_) (fun _h => ?_)) <;> (try simp only [_h])) | ((with_reducible apply call (c1)); (focus (simp (disch := omega) only [go_sem, Nat.reduceEqDiff, ↓reduceIte, reduceCtorEq, Nat.reduceAdd, Nat.reduceMul, Int.reduceToNat, List.reduceReplicate, Nat.reduceLeDiff, Nat.reduceLT, Int.reduceLT, Int.reduceLE, Int.reduceEq]; (try rfl); done))) | ((with_reducible apply call_lend (c2)); (focus (simp (disch := omega) only [go_sem, Nat.reduceEqDiff, ↓reduceIte, reduceCtorEq, Nat.reduceAdd, Nat.reduceMul, Int.reduceToNat, List.reduceReplicate, Nat.reduceLeDiff, Nat.reduceLT, Int.reduceLT, Int.reduceLE, Int.reduceEq]; (try rfl); done)); (focus rfl)) | fail)
      rfl
    · rw [if_pos (by omega)] at h ⊢
      (refine fn_look s32_ok (by simp) (by intro k; simp only [go_sem, Nat.reduceEqDiff, ↓reduceIte, reduceCtorEq, Nat.reduceAdd, Nat.reduceMul, Int.reduceToNat, List.reduceReplicate, Nat.reduceLeDiff, Nat.reduceLT, Int.reduceLT, Int.reduceLE, Int.reduceEq]) fun S hS => cwp_sound _ _ _ _ ?_; simp (disch := omega) only [s32, go_sem, Nat.reduceEqDiff, ↓reduceIte, reduceCtorEq, Nat.reduceAdd, Nat.reduceMul, Int.reduceToNat, List.reduceReplicate, Nat.reduceLeDiff, Nat.reduceLT, Int.reduceLT, Int.reduceLE, Int.reduceEq])
      repeat' (first | (with_reducible refine in_seq ?_) | (with_reducible refine in_reg ?_) | (with_reducible refine in_block ?_) | (with_reducible refine in_cond ?_) | (with_reducible refine in_ret ?_) | (with_reducible refine in_skip ?_) | (simp (disch := omega) only [go_sem, Nat.reduceEqDiff, ↓reduceIte, reduceCtorEq, Nat.reduceAdd, Nat.reduceMul, Int.reduceToNat, List.reduceReplicate, Nat.reduceLeDiff, Nat.reduceLT, Int.reduceLT, Int.reduceLE, Int.reduceEq]) | (with_reducible refine giv_intro fun _h => ?_) | (with_reducible refine alt_intro ?_ (fun _h => ?_)) | ((first | with_reducible refine br_dec (fun _h => ?_) (fun _h => ?_) | with_reducible refine br_ndec (fun _h => ?_) (fun _h => ?_)) <;> (first | (exfalso; omega) | simp only [decide_eq_false _h] | simp only [decide_eq_true _h] | skip)) | ((first | with_reducible refine br_not (fun _h => ?_) (fun _h => ?_) | with_reducible refine br_var (fun _h => ?_) (fun _h => ?_)) <;> (try simp only [_h])) | ((with_reducible apply call (c1)); (focus (simp (disch := omega) only [go_sem, Nat.reduceEqDiff, ↓reduceIte, reduceCtorEq, Nat.reduceAdd, Nat.reduceMul, Int.reduceToNat, List.reduceReplicate, Nat.reduceLeDiff, Nat.reduceLT, Int.reduceLT, Int.reduceLE, Int.reduceEq]; (try rfl); done))) | fail)
      rfl
/-- ablaut/ablautlaw13.joints: 1 parameters, 0 captured -/
def s30 : SC := .seq (.reg [⟨(some 2), .mv (.c (.int .i64 0)), none⟩])
  (.seq (.reg [⟨(some 5), .mv (.t 0), none⟩,
      ⟨(some 6), .lenL (.t 5), none⟩,
      ⟨(some 3), .mv (.t 6), none⟩])
   (.seq (.seq (.reg [⟨(some 4), .mv (.c (.int .i64 0)), none⟩])
     (.block 0 (.loop (.seq (.seq (.reg [⟨(some 7), .mv (.t 4), none⟩,
            ⟨(some 8), .mv (.t 0), none⟩,
            ⟨(some 9), .lenL (.t 8), none⟩,
            ⟨(some 10), .bin .lss (.t 7) (.t 9), none⟩,
            ⟨(some 11), .mv (.t 10), none⟩,
            ⟨(some 12), .mv (.t 3), some (11, true)⟩,
            ⟨(some 13), .bin .leq (.t 12) (.c (.int .i64 32000)), some (11, true)⟩,
            ⟨(some 14), .pick (.t 11) (.t 13) (.c (.bool false)), none⟩])
         (.cond (.t 14) (.skip) (.exit 0)))
        (.seq (.block 1 (.regD [⟨(some 17), .mv (.t 3), none⟩,
             ⟨(some 18), .mv (.t 0), none⟩,
             ⟨(some 19), .mv (.t 4), none⟩,
             ⟨(some 20), .iaddr 3 (.t 18) (.t 19), none⟩,
             ⟨(some 21), .faddr 0 (.t 20), none⟩,
             ⟨(some 22), .load none (.t 21), none⟩,
             ⟨(some 23), .mv (.t 0), none⟩,
             ⟨(some 24), .mv (.t 4), none⟩,
             ⟨(some 25), .iaddr 3 (.t 23) (.t 24), none⟩,
             ⟨(some 26), .faddr 1 (.t 25), none⟩,
             ⟨(some 27), .load none (.t 26), none⟩,
             ⟨(some 28), .mv (.t 0), none⟩,
             ⟨(some 29), .mv (.t 4), none⟩,
             ⟨(some 30), .iaddr 3 (.t 28) (.t 29), none⟩,
             ⟨(some 31), .faddr 2 (.t 30), none⟩,
             ⟨(some 32), .load none (.t 31), none⟩,
             ⟨(some 33), .buildSl 22 1 3 [(.slice none 0 0)] [(0, 1, (.t 22)), (1, 1, (.t 27)), (2, 1, (.t 32))], none⟩,
             ⟨(some 34), .call (.f 16) [(.t 33)], none⟩,
             ⟨(some 35), .bin .add (.t 17) (.t 34), none⟩,
             ⟨(some 3), .mv (.t 35), none⟩]))
         (.reg [⟨(some 15), .mv (.t 4), none⟩,
            ⟨(some 16), .bin .add (.t 15) (.c (.int .i64 1)), none⟩,
            ⟨(some 4), .mv (.t 16), none⟩]))))))
    (.seq (.reg [⟨(some 36), .mv (.t 3), none⟩,
        ⟨(some 2), .mv (.t 36), none⟩])
     (.ret))))
theorem s30_ok : lookF Try.prog 30 = some (s30, 37, [.tmp 2]) := by kernel_rfl
theorem lJoints_ok (l : List Joint) : FnR P 30 [sl l] fun r => ∃ n : Int, r = intA n := by
  (refine fnR_look s30_ok (by simp) (int_bel) fun S hS => cwp_sound _ _ _ _ ?_; simp (disch := omega) only [s30, go_sem, Nat.reduceEqDiff, ↓reduceIte, reduceCtorEq, Nat.reduceAdd, Nat.reduceMul, Int.reduceToNat, List.reduceReplicate, Nat.reduceLeDiff, Nat.reduceLT, Int.reduceLT, Int.reduceLE, Int.reduceEq])
  repeat' (first | (with_reducible refine in_seq ?_) | (with_reducible refine in_reg ?_) | (with_reducible refine in_block ?_) | (with_reducible refine in_cond ?_) | (with_reducible refine in_ret ?_) | (with_reducible refine in_skip ?_) | (simp (disch := omega) only [go_sem, Nat.reduceEqDiff, ↓reduceIte, reduceCtorEq, Nat.reduceAdd, Nat.reduceMul, Int.reduceToNat, List.reduceReplicate, Nat.reduceLeDiff, Nat.reduceLT, Int.reduceLT, Int.reduceLE, Int.reduceEq]) | (with_reducible refine giv_intro fun _h => ?_) | (with_reducible refine alt_intro ?_ (fun _h => ?_)) | ((first | with_reducible refine br_dec (fun _h => ?_) (fun _h => ?_) | with_reducible refine br_ndec (fun _h => ?_) (fun _h => ?_)) <;> (first | (exfalso; omega) | simp only [decide_eq_false _h] | simp only [decide_eq_true _h] | skip)) | ((first | with_reducible refine br_not (fun _h => ?_) (fun _h => ?_) | with_reducible refine br_var (fun _h => ?_) (fun _h => ?_)) <;> (try simp only [_h])) | fail)
  (refine loopC hS [0] (by simp only [go_sem, Nat.reduceEqDiff, ↓reduceIte, reduceCtorEq, Nat.reduceAdd, Nat.reduceMul, Int.reduceToNat, List.reduceReplicate, Nat.reduceLeDiff, Nat.reduceLT, Int.reduceLT, Int.reduceLE, Int.reduceEq]; try rfl) (fun (⟨i, n⟩ : Nat × Int) => [(3, intA n), (4, intA i)]) (fun (⟨i, n⟩ : Nat × Int) => []) (fun (⟨i, n⟩ : Nat × Int) => i ≤ l.length) (fun (⟨i, n⟩ : Nat × Int) => l.length - i) ((0, (l.length : Int))) ?h01 ?hn1 ?rd1; case hn1 => (intro s; first | rfl | (rcases s with ⟨_, _⟩; rfl) | (rcases s with ⟨_, _, _⟩; rfl) | (rcases s with ⟨_, _, _, _⟩; rfl) | (rcases s with ⟨_, _, _, _, _⟩; rfl)))
  · simp (disch := omega) only [go_sem, Nat.reduceEqDiff, ↓reduceIte, reduceCtorEq, Nat.reduceAdd, Nat.reduceMul, Int.reduceToNat, List.reduceReplicate, Nat.reduceLeDiff, Nat.reduceLT, Int.reduceLT, Int.reduceLE, Int.reduceEq]; simp
  rintro ⟨i, n⟩ hi
  replace hi : i ≤ l.length := hi
  repeat' (first | (with_reducible refine in_seq ?_) | (with_reducible refine in_reg ?_) | (with_reducible refine in_block ?_) | (with_reducible refine in_cond ?_) | (with_reducible refine in_ret ?_) | (with_reducible refine in_skip ?_) | (simp (disch := omega) only [go_sem, Nat.reduceEqDiff, ↓reduceIte, reduceCtorEq, Nat.reduceAdd, Nat.reduceMul, Int.reduceToNat, List.reduceReplicate, Nat.reduceLeDiff, Nat.reduceLT, Int.reduceLT, Int.reduceLE, Int.reduceEq]) | (with_reducible refine giv_intro fun _h => ?_) | (with_reducible refine alt_intro ?_ (fun _h => ?_)) | ((first | with_reducible refine br_dec (fun _h => ?_) (fun _h => ?_) | with_reducible refine br_ndec (fun _h => ?_) (fun _h => ?_)) <;> (first | (exfalso; omega) | simp only [decide_eq_false _h] | simp only [decide_eq_true _h] | skip)) | ((first | with_reducible refine br_not (fun _h => ?_) (fun _h => ?_) | with_reducible refine br_var (fun _h => ?_) (fun _h => ?_)) <;> (try simp only [_h])) | ((with_reducible apply call_D (bytesF_ok [(nth l i).1, (nth l i).2.1, (nth l i).2.2])); (focus (simp (disch := omega) only [go_sem, Nat.reduceEqDiff, ↓reduceIte, reduceCtorEq, Nat.reduceAdd, Nat.reduceMul, Int.reduceToNat, List.reduceReplicate, Nat.reduceLeDiff, Nat.reduceLT, Int.reduceLT, Int.reduceLE, Int.reduceEq]; (try rfl); done))) | fail)
  · exact ⟨(i + 1, _), ⟨by omega, by omega⟩, rfl, by omega⟩
  · exact ⟨_, rfl⟩
  · exact ⟨_, rfl⟩
/-- ablaut/ablautlaw13.HarmJoins: 3 parameters, 0 captured -/
def s7 : SC := .seq (.reg [⟨(some 6), .mv (.c (.bool false)), none⟩])
  (.seq (.seq (.reg [⟨(some 11), .mv (.t 0), none⟩,
       ⟨(some 12), .call (.f 30) [(.t 11)], none⟩,
       ⟨(some 13), .bin .gtr (.t 12) (.c (.int .i64 32000)), none⟩,
       ⟨(some 14), .mv (.t 13), none⟩,
       ⟨(some 15), .mv (.t 1), some (14, false)⟩,
       ⟨(some 16), .mv (.t 2), some (14, false)⟩,
       ⟨(some 17), .buildSl 22 1 2 [(.slice none 0 0)] [(0, 1, (.t 15)), (1, 1, (.t 16))], some (14, false)⟩,
       ⟨(some 18), .call (.f 16) [(.t 17)], some (14, false)⟩,
       ⟨(some 19), .bin .gtr (.t 18) (.c (.int .i64 32000)), some (14, false)⟩,
       ⟨(some 20), .pick (.t 14) (.c (.bool true)) (.t 19), none⟩])
    (.cond (.t 20) (.seq (.reg [⟨(some 21), .call (.f 17) [], none⟩,
         ⟨(some 6), .mv (.t 21), none⟩])
      (.ret)) (.skip)))
   (.seq (.reg [⟨(some 23), .mv (.t 0), none⟩,
       ⟨(some 24), .mv (.t 1), none⟩,
       ⟨(some 25), .mv (.t 2), none⟩,
       ⟨(some 26), .call (.f 31) [(.t 23), (.t 24), (.t 25)], none⟩,
       ⟨(some 22), .mv (.t 26), none⟩,
       ⟨(some 27), .ext (.t 22) 0, none⟩,
       ⟨(some 28), .ext (.t 22) 1, none⟩,
       ⟨(some 7), .mv (.t 27), none⟩,
       ⟨(some 8), .mv (.t 28), none⟩])
    (.seq (.reg [⟨(some 30), .mv (.t 0), none⟩,
        ⟨(some 31), .mv (.t 1), none⟩,
        ⟨(some 32), .mv (.t 2), none⟩,
        ⟨(some 33), .call (.f 32) [(.t 30), (.t 31), (.t 32)], none⟩,
        ⟨(some 29), .mv (.t 33), none⟩,
        ⟨(some 34), .ext (.t 29) 0, none⟩,
        ⟨(some 35), .ext (.t 29) 1, none⟩,
        ⟨(some 9), .mv (.t 34), none⟩,
        ⟨(some 10), .mv (.t 35), none⟩])
     (.seq (.reg [⟨(some 36), .mv (.t 7), none⟩,
         ⟨(some 37), .mv (.t 9), none⟩,
         ⟨(some 38), .call (.f 22) [(.t 36), (.t 37)], none⟩,
         ⟨(some 39), .mv (.t 38), none⟩,
         ⟨(some 40), .mv (.t 8), some (39, true)⟩,
         ⟨(some 41), .mv (.t 10), some (39, true)⟩,
         ⟨(some 42), .bin .eql (.t 40) (.t 41), some (39, true)⟩,
         ⟨(some 43), .pick (.t 39) (.t 42) (.c (.bool false)), none⟩,
         ⟨(some 44), .mv (.t 43), none⟩,
         ⟨(some 45), .call (.f 17) [], some (44, true)⟩,
         ⟨(some 46), .pick (.t 44) (.t 45) (.c (.bool false)), none⟩,
         ⟨(some 6), .mv (.t 46), none⟩])
      (.ret)))))
theorem s7_ok : lookF Try.prog 7 = some (s7, 47, [.tmp 6]) := by kernel_rfl
theorem HarmJoins_ok (l : List Joint) (a b : List Str) : Fn P 7 [sl l, sl a, sl b] (boolA true) := by
  (refine fn_look s7_ok (by simp) (by intro k; simp only [go_sem, Nat.reduceEqDiff, ↓reduceIte, reduceCtorEq, Nat.reduceAdd, Nat.reduceMul, Int.reduceToNat, List.reduceReplicate, Nat.reduceLeDiff, Nat.reduceLT, Int.reduceLT, Int.reduceLE, Int.reduceEq]) fun S hS => cwp_sound _ _ _ _ ?_; simp (disch := omega) only [s7, go_sem, Nat.reduceEqDiff, ↓reduceIte, reduceCtorEq, Nat.reduceAdd, Nat.reduceMul, Int.reduceToNat, List.reduceReplicate, Nat.reduceLeDiff, Nat.reduceLT, Int.reduceLT, Int.reduceLE, Int.reduceEq])
  repeat' (first | (with_reducible refine in_seq ?_) | (with_reducible refine in_reg ?_) | (with_reducible refine in_block ?_) | (with_reducible refine in_cond ?_) | (with_reducible refine in_ret ?_) | (with_reducible refine in_skip ?_) | (simp (disch := omega) only [go_sem, Nat.reduceEqDiff, ↓reduceIte, reduceCtorEq, Nat.reduceAdd, Nat.reduceMul, Int.reduceToNat, List.reduceReplicate, Nat.reduceLeDiff, Nat.reduceLT, Int.reduceLT, Int.reduceLE, Int.reduceEq]) | (with_reducible refine giv_intro fun _h => ?_) | (with_reducible refine alt_intro ?_ (fun _h => ?_)) | ((first | with_reducible refine br_dec (fun _h => ?_) (fun _h => ?_) | with_reducible refine br_ndec (fun _h => ?_) (fun _h => ?_)) <;> (first | (exfalso; omega) | simp only [decide_eq_false _h] | simp only [decide_eq_true _h] | skip)) | ((first | with_reducible refine br_not (fun _h => ?_) (fun _h => ?_) | with_reducible refine br_var (fun _h => ?_) (fun _h => ?_)) <;> (try simp only [_h])) | ((with_reducible apply call (known_ok)); (focus (simp (disch := omega) only [go_sem, Nat.reduceEqDiff, ↓reduceIte, reduceCtorEq, Nat.reduceAdd, Nat.reduceMul, Int.reduceToNat, List.reduceReplicate, Nat.reduceLeDiff, Nat.reduceLT, Int.reduceLT, Int.reduceLE, Int.reduceEq]; (try rfl); done))) | ((with_reducible apply callR (lJoints_ok l)); (focus (simp (disch := omega) only [go_sem, Nat.reduceEqDiff, ↓reduceIte, reduceCtorEq, Nat.reduceAdd, Nat.reduceMul, Int.reduceToNat, List.reduceReplicate, Nat.reduceLeDiff, Nat.reduceLT, Int.reduceLT, Int.reduceLE, Int.reduceEq]; (try rfl); done)); (rintro _ ⟨_, rfl⟩)) | ((with_reducible apply callR_lend (bytes_ok [a, b] (by simp))); (focus (simp (disch := omega) only [go_sem, Nat.reduceEqDiff, ↓reduceIte, reduceCtorEq, Nat.reduceAdd, Nat.reduceMul, Int.reduceToNat, List.reduceReplicate, Nat.reduceLeDiff, Nat.reduceLT, Int.reduceLT, Int.reduceLE, Int.reduceEq]; (try rfl); done)); (focus (rintro _ ⟨_, rfl⟩; rfl)); (rintro _ ⟨_, rfl⟩)) | ((with_reducible apply call (hSandhi_ok l a b)); (focus (simp (disch := omega) only [go_sem, Nat.reduceEqDiff, ↓reduceIte, reduceCtorEq, Nat.reduceAdd, Nat.reduceMul, Int.reduceToNat, List.reduceReplicate, Nat.reduceLeDiff, Nat.reduceLT, Int.reduceLT, Int.reduceLE, Int.reduceEq]; (try rfl); done))) | ((with_reducible apply call (rSandhi_ok l a b)); (focus (simp (disch := omega) only [go_sem, Nat.reduceEqDiff, ↓reduceIte, reduceCtorEq, Nat.reduceAdd, Nat.reduceMul, Int.reduceToNat, List.reduceReplicate, Nat.reduceLeDiff, Nat.reduceLT, Int.reduceLT, Int.reduceLE, Int.reduceEq]; (try rfl); done))) | ((with_reducible apply call (Same_ok _ _)); (focus (simp (disch := omega) only [go_sem, Nat.reduceEqDiff, ↓reduceIte, reduceCtorEq, Nat.reduceAdd, Nat.reduceMul, Int.reduceToNat, List.reduceReplicate, Nat.reduceLeDiff, Nat.reduceLT, Int.reduceLT, Int.reduceLE, Int.reduceEq]; (try rfl); done))) | fail)
end Go.Proofs.Ytpfoflhhbkjngaa.Ev

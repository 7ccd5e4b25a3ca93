/- The law HarmCuts. -/
import Derived.Test.YtpfoflhhbkjngaaFnHe
set_option linter.unusedVariables false
set_option linter.unusedSimpArgs false
namespace Go.Proofs.Ytpfoflhhbkjngaa.Ev
open Go Go.Proofs
theorem sndErr_len {l : List Sound} (h : sndErr l = 0) : l.length ≤ 40 := by
  unfold sndErr at h
  split at h
  · cases h
  · omega
/-- ablaut/ablautlaw13.HarmCuts: 2 parameters, 0 captured -/
def s6 : SC := .seq (.reg [⟨(some 2), .box 37 1 (.t 0), none⟩,
     ⟨(some 4), .mv (.c (.bool false)), none⟩])
  (.seq (.seq (.reg [⟨(some 11), .load (some 1) (.t 2), none⟩,
       ⟨(some 12), .call (.f 25) [(.t 11)], none⟩,
       ⟨(some 13), .mv (.t 12), none⟩,
       ⟨(some 14), .mv (.t 1), some (13, false)⟩,
       ⟨(some 15), .buildSl 22 1 1 [(.slice none 0 0)] [(0, 1, (.t 14))], some (13, false)⟩,
       ⟨(some 16), .call (.f 16) [(.t 15)], some (13, false)⟩,
       ⟨(some 17), .bin .gtr (.t 16) (.c (.int .i64 32000)), some (13, false)⟩,
       ⟨(some 18), .pick (.t 13) (.c (.bool true)) (.t 17), none⟩])
    (.cond (.t 18) (.seq (.reg [⟨(some 19), .call (.f 17) [], none⟩,
         ⟨(some 4), .mv (.t 19), none⟩])
      (.ret)) (.skip)))
   (.seq (.reg [⟨(some 21), .load (some 1) (.t 2), none⟩,
       ⟨(some 22), .mv (.t 1), none⟩,
       ⟨(some 23), .call (.f 26) [(.t 21), (.t 22)], none⟩,
       ⟨(some 20), .mv (.t 23), none⟩,
       ⟨(some 24), .ext (.t 20) 0, none⟩,
       ⟨(some 25), .ext (.t 20) 1, none⟩,
       ⟨(some 5), .mv (.t 24), none⟩,
       ⟨(some 6), .mv (.t 25), none⟩])
    (.seq (.seq (.reg [⟨(some 26), .mv (.t 6), none⟩,
         ⟨(some 27), .bin .neq (.t 26) (.c (.int .i64 0)), none⟩])
      (.cond (.t 27) (.seq (.reg [⟨(some 28), .call (.f 17) [], none⟩,
           ⟨(some 4), .mv (.t 28), none⟩])
        (.ret)) (.skip)))
     (.seq (.reg [⟨(some 7), .mv (.c (.slice none 0 0)), none⟩])
      (.seq (.reg [⟨(some 8), .mv (.c (.int .i64 0)), none⟩])
       (.seq (.seq (.reg [⟨(some 9), .mv (.c (.int .i64 0)), none⟩])
         (.block 0 (.loop (.seq (.seq (.reg [⟨(some 29), .mv (.t 9), none⟩,
                ⟨(some 30), .mv (.t 5), none⟩,
                ⟨(some 31), .lenL (.t 30), none⟩,
                ⟨(some 32), .bin .lss (.t 29) (.t 31), none⟩])
             (.cond (.t 32) (.skip) (.exit 0)))
            (.seq (.block 1 (.seq (.reg [⟨(some 35), .mv (.t 7), none⟩,
                  ⟨(some 36), .mv (.t 5), none⟩,
                  ⟨(some 37), .mv (.t 9), none⟩,
                  ⟨(some 38), .iaddr 1 (.t 36) (.t 37), none⟩,
                  ⟨(some 39), .load none (.t 38), none⟩,
                  ⟨(some 40), .call (.f 28) [(.t 35), (.t 39)], none⟩,
                  ⟨(some 7), .mv (.t 40), none⟩])
               (.seq (.regD [⟨(some 41), .load (some 1) (.t 2), none⟩,
                   ⟨(some 42), .mv (.t 5), none⟩,
                   ⟨(some 43), .mv (.t 9), none⟩,
                   ⟨(some 44), .iaddr 1 (.t 42) (.t 43), none⟩,
                   ⟨(some 45), .load none (.t 44), none⟩,
                   ⟨(some 46), .call (.f 29) [(.t 41), (.t 45)], none⟩,
                   ⟨(some 10), .mv (.t 46), none⟩])
                (.seq (.reg [⟨(some 47), .mv (.t 8), none⟩,
                    ⟨(some 48), .mv (.t 10), none⟩,
                    ⟨(some 49), .bin .add (.t 47) (.t 48), none⟩,
                    ⟨(some 8), .mv (.t 49), none⟩])
                 (.seq (.reg [⟨(some 50), .mv (.t 10), none⟩,
                     ⟨(some 51), .bin .gtr (.t 50) (.c (.int .i64 1)), none⟩,
                     ⟨(some 52), .mv (.t 51), none⟩,
                     ⟨(some 53), .mv (.t 5), some (52, false)⟩,
                     ⟨(some 54), .mv (.t 9), some (52, false)⟩,
                     ⟨(some 55), .iaddr 1 (.t 53) (.t 54), some (52, false)⟩,
                     ⟨(some 56), .load none (.t 55), some (52, false)⟩,
                     ⟨(some 57), .lenL (.t 56), some (52, false)⟩,
                     ⟨(some 58), .bin .eql (.t 57) (.c (.int .i64 0)), some (52, false)⟩,
                     ⟨(some 59), .pick (.t 52) (.c (.bool true)) (.t 58), none⟩,
                     ⟨(some 60), .mv (.t 59), none⟩,
                     ⟨(some 61), .mv (.t 10), some (60, false)⟩,
                     ⟨(some 62), .bin .eql (.t 61) (.c (.int .i64 0)), some (60, false)⟩,
                     ⟨(some 63), .mv (.t 62), some (60, false)⟩,
                     ⟨(some 64), .mv (.t 5), some (63, true)⟩,
                     ⟨(some 65), .lenL (.t 64), some (63, true)⟩,
                     ⟨(some 66), .bin .gtr (.t 65) (.c (.int .i64 1)), some (63, true)⟩,
                     ⟨(some 67), .pick (.t 63) (.t 66) (.c (.bool false)), some (60, false)⟩,
                     ⟨(some 68), .pick (.t 60) (.c (.bool true)) (.t 67), none⟩])
                  (.cond (.t 68) (.seq (.reg [⟨(some 4), .mv (.c (.bool false)), none⟩])
                    (.ret)) (.skip)))))))
             (.reg [⟨(some 33), .mv (.t 9), none⟩,
                ⟨(some 34), .bin .add (.t 33) (.c (.int .i64 1)), none⟩,
                ⟨(some 9), .mv (.t 34), none⟩]))))))
        (.seq (.reg [⟨(some 69), .mv (.t 7), none⟩,
            ⟨(some 70), .mv (.t 1), none⟩,
            ⟨(some 71), .call (.f 22) [(.t 69), (.t 70)], none⟩,
            ⟨(some 72), .mv (.t 71), none⟩,
            ⟨(some 73), .mv (.t 8), some (72, true)⟩,
            ⟨(some 74), .load (some 1) (.t 2), some (72, true)⟩,
            ⟨(some 75), .mv (.t 1), some (72, true)⟩,
            ⟨(some 76), .call (.f 29) [(.t 74), (.t 75)], some (72, true)⟩,
            ⟨(some 77), .bin .eql (.t 73) (.t 76), some (72, true)⟩,
            ⟨(some 78), .pick (.t 72) (.t 77) (.c (.bool false)), none⟩,
            ⟨(some 79), .mv (.t 78), none⟩,
            ⟨(some 80), .call (.f 17) [], some (79, true)⟩,
            ⟨(some 81), .pick (.t 79) (.t 80) (.c (.bool false)), none⟩,
            ⟨(some 4), .mv (.t 81), none⟩])
         (.ret))))))))
theorem s6_ok : lookF Try.prog 6 = some (s6, 82, [.tmp 4]) := by kernel_rfl
set_option maxHeartbeats 1000000 in
theorem HarmCuts_ok (l : List Sound) (w : List Str) : Fn P 6 [sndA l, sl w] (boolA true) := by
  have c1 := hSyllables_ok l w
  by_cases he : sylE l w = 0
  · obtain ⟨h1, h2⟩ := two_zero he
    have hl := sndErr_len h1
    have hw := wordErr_len (wordsErr_one h2)
    obtain ⟨f1, f2⟩ := syl_facts (w := w) h1
    rw [sylV, if_pos he, he] at c1
    generalize hx : sylL (vowR l) (louR l) w = x at *
    have hlen : ∀ i, ((x.take i).flatten).length ≤ 60 := fun i => by have := flat_le x i; rw [f1] at this; omega
    have hpl : ∀ i, i < x.length → (nth x i).length ≤ 60 := fun i hi => by
      have := flat_le x (i + 1); rw [flat_step hi, f1, List.length_append] at this; omega
    have k9 := count_ok l w (by omega) (by omega)
    (refine fn_look s6_ok (by simp) (by intro k; simp only [go_sem, Nat.reduceEqDiff, ↓reduceIte, reduceCtorEq, Nat.reduceAdd, Nat.reduceMul, Int.reduceToNat, List.reduceReplicate, Nat.reduceLeDiff, Nat.reduceLT, Int.reduceLT, Int.reduceLE, Int.reduceEq]) fun S hS => cwp_sound _ _ _ _ ?_; simp (disch := omega) only [s6, go_sem, Nat.reduceEqDiff, ↓reduceIte, reduceCtorEq, Nat.reduceAdd, Nat.reduceMul, Int.reduceToNat, List.reduceReplicate, Nat.reduceLeDiff, Nat.reduceLT, Int.reduceLT, Int.reduceLE, Int.reduceEq])
    repeat' (first | (with_reducible refine in_seq ?_) | (with_reducible refine in_reg ?_) | (with_reducible refine in_block ?_) | (with_reducible refine in_cond ?_) | (with_reducible refine in_ret ?_) | (with_reducible refine in_skip ?_) | (simp (disch := omega) only [go_sem, Nat.reduceEqDiff, ↓reduceIte, reduceCtorEq, Nat.reduceAdd, Nat.reduceMul, Int.reduceToNat, List.reduceReplicate, Nat.reduceLeDiff, Nat.reduceLT, Int.reduceLT, Int.reduceLE, Int.reduceEq]) | (with_reducible refine giv_intro fun _h => ?_) | (with_reducible refine alt_intro ?_ (fun _h => ?_)) | ((first | with_reducible refine br_dec (fun _h => ?_) (fun _h => ?_) | with_reducible refine br_ndec (fun _h => ?_) (fun _h => ?_)) <;> (first | (exfalso; omega) | simp only [decide_eq_false _h] | simp only [decide_eq_true _h] | skip)) | ((first | with_reducible refine br_not (fun _h => ?_) (fun _h => ?_) | with_reducible refine br_var (fun _h => ?_) (fun _h => ?_)) <;> (try simp only [_h])) | ((with_reducible apply call (known_ok)); (focus (simp (disch := omega) only [go_sem, Nat.reduceEqDiff, ↓reduceIte, reduceCtorEq, Nat.reduceAdd, Nat.reduceMul, Int.reduceToNat, List.reduceReplicate, Nat.reduceLeDiff, Nat.reduceLT, Int.reduceLT, Int.reduceLE, Int.reduceEq]; (try rfl); done))) | ((with_reducible apply callR (over_ok l)); (focus (simp (disch := omega) only [go_sem, Nat.reduceEqDiff, ↓reduceIte, reduceCtorEq, Nat.reduceAdd, Nat.reduceMul, Int.reduceToNat, List.reduceReplicate, Nat.reduceLeDiff, Nat.reduceLT, Int.reduceLT, Int.reduceLE, Int.reduceEq]; (try rfl); done)); (rintro _ ⟨_, rfl⟩)) | ((with_reducible apply callR_lend (bytes_ok [w] (by simp))); (focus (simp (disch := omega) only [go_sem, Nat.reduceEqDiff, ↓reduceIte, reduceCtorEq, Nat.reduceAdd, Nat.reduceMul, Int.reduceToNat, List.reduceReplicate, Nat.reduceLeDiff, Nat.reduceLT, Int.reduceLT, Int.reduceLE, Int.reduceEq]; (try rfl); done)); (focus (rintro _ ⟨_, rfl⟩; rfl)); (rintro _ ⟨_, rfl⟩)) | ((with_reducible apply call (c1)); (focus (simp (disch := omega) only [go_sem, Nat.reduceEqDiff, ↓reduceIte, reduceCtorEq, Nat.reduceAdd, Nat.reduceMul, Int.reduceToNat, List.reduceReplicate, Nat.reduceLeDiff, Nat.reduceLT, Int.reduceLT, Int.reduceLE, Int.reduceEq]; (try rfl); done))) | fail)
    (refine loopC hS [1, 2, 5] (by simp only [go_sem, Nat.reduceEqDiff, ↓reduceIte, reduceCtorEq, Nat.reduceAdd, Nat.reduceMul, Int.reduceToNat, List.reduceReplicate, Nat.reduceLeDiff, Nat.reduceLT, Int.reduceLT, Int.reduceLE, Int.reduceEq]; try rfl) (fun (i : Nat) => [(7, sl ((x.take i).flatten)), (8, intA (countV l ((x.take i).flatten) : Nat)), (9, intA i)]) (fun (i : Nat) => [some (.row 37 1 [sl l]), none]) (fun (i : Nat) => i ≤ x.length) (fun (i : Nat) => x.length - i) (0) ?h01 ?hn1 ?rd1; case hn1 => (intro s; first | rfl | (rcases s with ⟨_, _⟩; rfl) | (rcases s with ⟨_, _, _⟩; rfl) | (rcases s with ⟨_, _, _, _⟩; rfl) | (rcases s with ⟨_, _, _, _, _⟩; rfl)))
    · simp (disch := omega) only [go_sem, Nat.reduceEqDiff, ↓reduceIte, reduceCtorEq, Nat.reduceAdd, Nat.reduceMul, Int.reduceToNat, List.reduceReplicate, Nat.reduceLeDiff, Nat.reduceLT, Int.reduceLT, Int.reduceLE, Int.reduceEq]; simp [countV]; rfl
    · rintro i hi
      replace hi : i ≤ x.length := hi
      have b0 := hlen i
      have b1 := countV_le l ((x.take i).flatten)
      have b2 : l.length * ((x.take i).flatten).length ≤ 40 * 60 := Nat.mul_le_mul hl b0
      by_cases hil : i < x.length
      · have b3 := hpl i hil
        have b4 := hlen (i + 1)
        rw [flat_step hil, List.length_append] at b4
        have d1 := count_ok l (nth x i) (by omega) (by omega)
        have d2 := join_ok ((x.take i).flatten) (nth x i) (by omega)
        have q2 : (countV l (nth x i) = 1 ∧ (nth x i).length ≠ 0) ∨ (x.length = 1 ∧ countV l (nth x i) = 0 ∧ (nth x i).length ≠ 0) := by
          rcases f2 with f2 | ⟨f2, f3, f4⟩
          · left
            have := f2 _ (nth_mem hil)
            refine ⟨this, fun h => ?_⟩
            rw [List.eq_nil_of_length_eq_zero h] at this; simp [countV] at this
          · right
            have : x.length = 1 := by rw [f2]; rfl
            have : i = 0 := by omega
            subst this
            rw [f2]; exact ⟨rfl, f4, by show w.length ≠ 0; omega⟩
        repeat' (first | (with_reducible refine in_seq ?_) | (with_reducible refine in_reg ?_) | (with_reducible refine in_block ?_) | (with_reducible refine in_cond ?_) | (with_reducible refine in_ret ?_) | (with_reducible refine in_skip ?_) | (simp (disch := omega) only [go_sem, Nat.reduceEqDiff, ↓reduceIte, reduceCtorEq, Nat.reduceAdd, Nat.reduceMul, Int.reduceToNat, List.reduceReplicate, Nat.reduceLeDiff, Nat.reduceLT, Int.reduceLT, Int.reduceLE, Int.reduceEq]) | (with_reducible refine giv_intro fun _h => ?_) | (with_reducible refine alt_intro ?_ (fun _h => ?_)) | ((first | with_reducible refine br_dec (fun _h => ?_) (fun _h => ?_) | with_reducible refine br_ndec (fun _h => ?_) (fun _h => ?_)) <;> (first | (exfalso; omega) | simp only [decide_eq_false _h] | simp only [decide_eq_true _h] | skip)) | ((first | with_reducible refine br_not (fun _h => ?_) (fun _h => ?_) | with_reducible refine br_var (fun _h => ?_) (fun _h => ?_)) <;> (try simp only [_h])) | ((with_reducible apply call (d2)); (focus (simp (disch := omega) only [go_sem, Nat.reduceEqDiff, ↓reduceIte, reduceCtorEq, Nat.reduceAdd, Nat.reduceMul, Int.reduceToNat, List.reduceReplicate, Nat.reduceLeDiff, Nat.reduceLT, Int.reduceLT, Int.reduceLE, Int.reduceEq]; (try rfl); done))) | ((with_reducible apply call_D (d1)); (focus (simp (disch := omega) only [go_sem, Nat.reduceEqDiff, ↓reduceIte, reduceCtorEq, Nat.reduceAdd, Nat.reduceMul, Int.reduceToNat, List.reduceReplicate, Nat.reduceLeDiff, Nat.reduceLT, Int.reduceLT, Int.reduceLE, Int.reduceEq]; (try rfl); done))) | fail)
        all_goals
          refine ⟨i + 1, ⟨by omega, by omega⟩, ?_, ?_, by omega⟩
          · rw [flat_step hil]; exact ⟨rfl, rfl⟩
          · rw [flat_step hil, countV_app]; omega
      · have hz : x.take i = x := List.take_of_length_le (by omega)
        rw [hz, f1] at *
        repeat' (first | (with_reducible refine in_seq ?_) | (with_reducible refine in_reg ?_) | (with_reducible refine in_block ?_) | (with_reducible refine in_cond ?_) | (with_reducible refine in_ret ?_) | (with_reducible refine in_skip ?_) | (simp (disch := omega) only [go_sem, Nat.reduceEqDiff, ↓reduceIte, reduceCtorEq, Nat.reduceAdd, Nat.reduceMul, Int.reduceToNat, List.reduceReplicate, Nat.reduceLeDiff, Nat.reduceLT, Int.reduceLT, Int.reduceLE, Int.reduceEq, hz, f1]) | (with_reducible refine giv_intro fun _h => ?_) | (with_reducible refine alt_intro ?_ (fun _h => ?_)) | ((first | with_reducible refine br_dec (fun _h => ?_) (fun _h => ?_) | with_reducible refine br_ndec (fun _h => ?_) (fun _h => ?_)) <;> (first | (exfalso; omega) | simp only [decide_eq_false _h] | simp only [decide_eq_true _h] | skip)) | ((first | with_reducible refine br_not (fun _h => ?_) (fun _h => ?_) | with_reducible refine br_var (fun _h => ?_) (fun _h => ?_)) <;> (try simp only [_h])) | ((with_reducible apply call (Same_ok _ _)); (focus (simp (disch := omega) only [go_sem, Nat.reduceEqDiff, ↓reduceIte, reduceCtorEq, Nat.reduceAdd, Nat.reduceMul, Int.reduceToNat, List.reduceReplicate, Nat.reduceLeDiff, Nat.reduceLT, Int.reduceLT, Int.reduceLE, Int.reduceEq, hz, f1]; (try rfl); done))) | ((with_reducible apply call (k9)); (focus (simp (disch := omega) only [go_sem, Nat.reduceEqDiff, ↓reduceIte, reduceCtorEq, Nat.reduceAdd, Nat.reduceMul, Int.reduceToNat, List.reduceReplicate, Nat.reduceLeDiff, Nat.reduceLT, Int.reduceLT, Int.reduceLE, Int.reduceEq, hz, f1]; (try rfl); done))) | ((with_reducible apply call (known_ok)); (focus (simp (disch := omega) only [go_sem, Nat.reduceEqDiff, ↓reduceIte, reduceCtorEq, Nat.reduceAdd, Nat.reduceMul, Int.reduceToNat, List.reduceReplicate, Nat.reduceLeDiff, Nat.reduceLT, Int.reduceLT, Int.reduceLE, Int.reduceEq, hz, f1]; (try rfl); done))) | fail)
  · (refine fn_look s6_ok (by simp) (by intro k; simp only [go_sem, Nat.reduceEqDiff, ↓reduceIte, reduceCtorEq, Nat.reduceAdd, Nat.reduceMul, Int.reduceToNat, List.reduceReplicate, Nat.reduceLeDiff, Nat.reduceLT, Int.reduceLT, Int.reduceLE, Int.reduceEq]) fun S hS => cwp_sound _ _ _ _ ?_; simp (disch := omega) only [s6, go_sem, Nat.reduceEqDiff, ↓reduceIte, reduceCtorEq, Nat.reduceAdd, Nat.reduceMul, Int.reduceToNat, List.reduceReplicate, Nat.reduceLeDiff, Nat.reduceLT, Int.reduceLT, Int.reduceLE, Int.reduceEq])
    repeat' (first | (with_reducible refine in_seq ?_) | (with_reducible refine in_reg ?_) | (with_reducible refine in_block ?_) | (with_reducible refine in_cond ?_) | (with_reducible refine in_ret ?_) | (with_reducible refine in_skip ?_) | (simp (disch := omega) only [go_sem, Nat.reduceEqDiff, ↓reduceIte, reduceCtorEq, Nat.reduceAdd, Nat.reduceMul, Int.reduceToNat, List.reduceReplicate, Nat.reduceLeDiff, Nat.reduceLT, Int.reduceLT, Int.reduceLE, Int.reduceEq]) | (with_reducible refine giv_intro fun _h => ?_) | (with_reducible refine alt_intro ?_ (fun _h => ?_)) | ((first | with_reducible refine br_dec (fun _h => ?_) (fun _h => ?_) | with_reducible refine br_ndec (fun _h => ?_) (fun _h => ?_)) <;> (first | (exfalso; omega) | simp only [decide_eq_false _h] | simp only [decide_eq_true _h] | skip)) | ((first | with_reducible refine br_not (fun _h => ?_) (fun _h => ?_) | with_reducible refine br_var (fun _h => ?_) (fun _h => ?_)) <;> (try simp only [_h])) | ((with_reducible apply call (known_ok)); (focus (simp (disch := omega) only [go_sem, Nat.reduceEqDiff, ↓reduceIte, reduceCtorEq, Nat.reduceAdd, Nat.reduceMul, Int.reduceToNat, List.reduceReplicate, Nat.reduceLeDiff, Nat.reduceLT, Int.reduceLT, Int.reduceLE, Int.reduceEq]; (try rfl); done))) | ((with_reducible apply callR (over_ok l)); (focus (simp (disch := omega) only [go_sem, Nat.reduceEqDiff, ↓reduceIte, reduceCtorEq, Nat.reduceAdd, Nat.reduceMul, Int.reduceToNat, List.reduceReplicate, Nat.reduceLeDiff, Nat.reduceLT, Int.reduceLT, Int.reduceLE, Int.reduceEq]; (try rfl); done)); (rintro _ ⟨_, rfl⟩)) | ((with_reducible apply callR_lend (bytes_ok [w] (by simp))); (focus (simp (disch := omega) only [go_sem, Nat.reduceEqDiff, ↓reduceIte, reduceCtorEq, Nat.reduceAdd, Nat.reduceMul, Int.reduceToNat, List.reduceReplicate, Nat.reduceLeDiff, Nat.reduceLT, Int.reduceLT, Int.reduceLE, Int.reduceEq]; (try rfl); done)); (focus (rintro _ ⟨_, rfl⟩; rfl)); (rintro _ ⟨_, rfl⟩)) | ((with_reducible apply call (c1)); (focus (simp (disch := omega) only [go_sem, Nat.reduceEqDiff, ↓reduceIte, reduceCtorEq, Nat.reduceAdd, Nat.reduceMul, Int.reduceToNat, List.reduceReplicate, Nat.reduceLeDiff, Nat.reduceLT, Int.reduceLT, Int.reduceLE, Int.reduceEq]; (try rfl); done))) | fail)
end Go.Proofs.Ytpfoflhhbkjngaa.Ev

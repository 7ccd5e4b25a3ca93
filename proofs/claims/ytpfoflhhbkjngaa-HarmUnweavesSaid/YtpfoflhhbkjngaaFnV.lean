/- The roots of a word make it. -/
import Derived.Test.YtpfoflhhbkjngaaFnW
set_option linter.unusedVariables false
set_option linter.unusedSimpArgs false
namespace Go.Proofs.Ytpfoflhhbkjngaa.Ev
open Go Go.Proofs

theorem wordErr_ok {l : List Str} : wordErr l = 0 ↔ l.length ≤ 60 ∧ ∀ s ∈ l, s.size ≤ 16 ∧ okText s = true ∧ s.size ≠ 0 := by
  unfold wordErr
  constructor
  · intro h
    split at h
    · omega
    · rename_i h1
      simp only [not_or, List.any_eq_true, decide_eq_true_eq, not_exists, not_and] at h1
      split at h
      · omega
      · rename_i h2
        simp only [List.any_eq_true, Bool.not_eq_true', Bool.and_eq_false_imp, decide_eq_false_iff_not, not_exists, not_and] at h2
        refine ⟨by omega, fun s hs => ⟨by have := h1.2 s hs; omega, ?_⟩⟩
        have := h2 s hs
        simp only [Classical.not_imp, Classical.not_not] at this
        exact this
  · rintro ⟨h1, h2⟩
    rw [if_neg, if_neg]
    · simp only [List.any_eq_true, not_exists, not_and]
      intro s hs
      obtain ⟨_, h3, h4⟩ := h2 s hs
      simp [h3, h4]
    · simp only [not_or, List.any_eq_true, decide_eq_true_eq, not_exists, not_and]
      exact ⟨by omega, fun s hs => by have := (h2 s hs).1; omega⟩
theorem rootF_mem (n : Nat) : ∀ (form w r : List Str) (x : Str), x ∈ rootF n form w r → x ∈ w ∨ x ∈ r
  | [], _, r, x, h => by simp [rootF] at h; exact .inr h
  | s :: form, [], r, x, h => by simp [rootF] at h; exact .inr h
  | s :: form, y :: w, r, x, h => by
    simp only [rootF] at h
    rcases rootF_mem n form w _ x h with h | h
    · exact .inl (List.mem_cons_of_mem _ h)
    · split at h
      · rcases List.mem_or_eq_of_mem_set h with h | h
        · exact .inr h
        · subst h; exact .inl (List.mem_cons_self ..)
      · exact .inr h
theorem rootsU_all (w form : List Str) : ∀ (m k : Nat) (x : List Str), x ∈ rootsU w form k m → ∃ n, k < n ∧ n ≤ k + m ∧ x = rootU n w form ∧ fitsU w form n = true
  | 0, k, x, h => by simp [rootsU] at h
  | m + 1, k, x, h => by
    simp only [rootsU, List.mem_append] at h
    rcases h with h | h
    · split at h
      · simp at h; exact ⟨k + 1, by omega, by omega, h, by assumption⟩
      · simp at h
    · obtain ⟨n, h1, h2, h3, h4⟩ := rootsU_all w form m (k + 1) x h
      exact ⟨n, by omega, by omega, h3, h4⟩
theorem rootsU_asc (w form : List Str) : ∀ (m k : Nat), (rootsU w form k m).Pairwise fun a b => a.length < b.length
  | 0, k => by simp [rootsU]
  | m + 1, k => by
    simp only [rootsU]
    rw [List.pairwise_append]
    refine ⟨by split <;> simp, rootsU_asc w form m (k + 1), fun a ha b hb => ?_⟩
    split at ha
    · simp at ha
      obtain ⟨n, h1, h2, h3, h4⟩ := rootsU_all w form m (k + 1) b hb
      rw [ha, h3, rootU_len, rootU_len]; exact h1
    · simp at ha
theorem unweave_mem {w form x : List Str} (h : x ∈ unweaveV w form) : weaveE x form = 0 ∧ weaveV x form = w := by
  unfold unweaveV at h
  split at h
  · rename_i hc
    have hw : wordsErr [w, form] = 0 := by
      have := hc.1
      unfold unweaveE at this
      split at this
      · rename_i h1; exact absurd this h1
      · rename_i h1; simpa using h1
    obtain ⟨hw1, hw2⟩ := wordsErr_two.1 hw
    obtain ⟨n, h1, h2, rfl, h4⟩ := rootsU_all _ _ _ _ _ h
    unfold fitsU at h4
    simp only [Bool.and_eq_true, Bool.not_eq_true', decide_eq_true_eq] at h4
    have hm := mostL_range form
    have hxe : wordErr (rootU n w form) = 0 := by
      rw [wordErr_ok]
      refine ⟨by rw [rootU_len]; omega, fun s hs => ?_⟩
      rcases rootF_mem _ _ _ _ _ hs with hs' | hs'
      · exact (wordErr_ok.1 hw1).2 s hs'
      · have := List.any_eq_false.1 h4.1 s hs
        simp at hs'
        exact absurd (by simp [hs'.2]) this
    have he : weaveE (rootU n w form) form = 0 := by
      unfold weaveE
      rw [if_neg (by rw [wordsErr_two.2 ⟨hxe, hw2⟩]; simp), if_neg (by rw [rootU_len]; omega)]
    exact ⟨he, by rw [weaveV, if_pos he, h4.2]⟩
  · simp at h
theorem unweave_asc (w form : List Str) : (unweaveV w form).Pairwise fun a b => a.length < b.length := by
  unfold unweaveV
  split
  · exact rootsU_asc _ _ _ _
  · simp

/-- ablaut/ablautlaw13.HarmUnweaves: 2 parameters, 0 captured -/
def s4 : SC := .seq (.reg [⟨(some 4), .mv (.c (.bool false)), none⟩])
  (.seq (.seq (.reg [⟨(some 10), .mv (.t 1), none⟩,
       ⟨(some 11), .mv (.t 0), none⟩,
       ⟨(some 12), .buildSl 22 1 2 [(.slice none 0 0)] [(0, 1, (.t 10)), (1, 1, (.t 11))], none⟩,
       ⟨(some 13), .call (.f 16) [(.t 12)], none⟩,
       ⟨(some 14), .bin .gtr (.t 13) (.c (.int .i64 32000)), none⟩])
    (.cond (.t 14) (.seq (.reg [⟨(some 15), .call (.f 17) [], none⟩,
         ⟨(some 4), .mv (.t 15), none⟩])
      (.ret)) (.skip)))
   (.seq (.reg [⟨(some 17), .mv (.t 0), none⟩,
       ⟨(some 18), .mv (.t 1), none⟩,
       ⟨(some 19), .call (.f 20) [(.t 17), (.t 18)], none⟩,
       ⟨(some 16), .mv (.t 19), none⟩,
       ⟨(some 20), .ext (.t 16) 0, none⟩,
       ⟨(some 21), .ext (.t 16) 1, none⟩,
       ⟨(some 5), .mv (.t 20), none⟩,
       ⟨(some 6), .mv (.t 21), none⟩])
    (.seq (.seq (.reg [⟨(some 7), .mv (.c (.int .i64 0)), none⟩])
      (.block 0 (.loop (.seq (.seq (.reg [⟨(some 22), .mv (.t 7), none⟩,
             ⟨(some 23), .mv (.t 5), none⟩,
             ⟨(some 24), .lenL (.t 23), none⟩,
             ⟨(some 25), .bin .lss (.t 22) (.t 24), none⟩,
             ⟨(some 26), .mv (.t 25), none⟩,
             ⟨(some 27), .mv (.t 6), some (26, true)⟩,
             ⟨(some 28), .bin .eql (.t 27) (.c (.int .i64 0)), some (26, true)⟩,
             ⟨(some 29), .pick (.t 26) (.t 28) (.c (.bool false)), none⟩])
          (.cond (.t 29) (.skip) (.exit 0)))
         (.seq (.block 1 (.seq (.reg [⟨(some 33), .mv (.t 5), none⟩,
               ⟨(some 34), .mv (.t 7), none⟩,
               ⟨(some 35), .iaddr 1 (.t 33) (.t 34), none⟩,
               ⟨(some 36), .load none (.t 35), none⟩,
               ⟨(some 37), .mv (.t 1), none⟩,
               ⟨(some 38), .call (.f 18) [(.t 36), (.t 37)], none⟩,
               ⟨(some 32), .mv (.t 38), none⟩,
               ⟨(some 39), .ext (.t 32) 0, none⟩,
               ⟨(some 40), .ext (.t 32) 1, none⟩,
               ⟨(some 8), .mv (.t 39), none⟩,
               ⟨(some 9), .mv (.t 40), none⟩])
            (.seq (.regD [⟨(some 41), .mv (.t 9), none⟩,
                ⟨(some 42), .bin .neq (.t 41) (.c (.int .i64 0)), none⟩,
                ⟨(some 43), .mv (.t 42), none⟩,
                ⟨(some 44), .mv (.t 8), some (43, false)⟩,
                ⟨(some 45), .mv (.t 0), some (43, false)⟩,
                ⟨(some 46), .call (.f 22) [(.t 44), (.t 45)], some (43, false)⟩,
                ⟨(some 47), .un .not (.t 46), some (43, false)⟩,
                ⟨(some 48), .pick (.t 43) (.c (.bool true)) (.t 47), none⟩,
                ⟨(some 49), .mv (.t 48), none⟩,
                ⟨(some 50), .mv (.t 7), some (49, false)⟩,
                ⟨(some 51), .bin .gtr (.t 50) (.c (.int .i64 0)), some (49, false)⟩,
                ⟨(some 52), .mv (.t 51), some (49, false)⟩,
                ⟨(some 53), .mv (.t 5), some (52, true)⟩,
                ⟨(some 54), .mv (.t 7), some (52, true)⟩,
                ⟨(some 55), .bin .sub (.t 54) (.c (.int .i64 1)), some (52, true)⟩,
                ⟨(some 56), .iaddr 1 (.t 53) (.t 55), some (52, true)⟩,
                ⟨(some 57), .load none (.t 56), some (52, true)⟩,
                ⟨(some 58), .mv (.t 5), some (52, true)⟩,
                ⟨(some 59), .mv (.t 7), some (52, true)⟩,
                ⟨(some 60), .iaddr 1 (.t 58) (.t 59), some (52, true)⟩,
                ⟨(some 61), .load none (.t 60), some (52, true)⟩,
                ⟨(some 62), .call (.f 24) [(.t 57), (.t 61)], some (52, true)⟩,
                ⟨(some 63), .bin .geq (.t 62) (.c (.int .i64 0)), some (52, true)⟩,
                ⟨(some 64), .pick (.t 52) (.t 63) (.c (.bool false)), some (49, false)⟩,
                ⟨(some 65), .pick (.t 49) (.c (.bool true)) (.t 64), none⟩])
             (.cond (.t 65) (.seq (.reg [⟨(some 4), .mv (.c (.bool false)), none⟩])
               (.ret)) (.skip)))))
          (.reg [⟨(some 30), .mv (.t 7), none⟩,
             ⟨(some 31), .bin .add (.t 30) (.c (.int .i64 1)), none⟩,
             ⟨(some 7), .mv (.t 31), none⟩]))))))
     (.seq (.reg [⟨(some 66), .call (.f 17) [], none⟩,
         ⟨(some 4), .mv (.t 66), none⟩])
      (.ret)))))
theorem s4_ok : lookF Try.prog 4 = some (s4, 67, [4]) := by kernel_rfl
theorem HarmUnweaves_ok (form w : List Str) : Fn P 4 [sl w, sl form] (boolA true) := by
  refine fn_look s4_ok (by simp) (by intro k; simp only [go_sem, Nat.reduceEqDiff, ↓reduceIte, reduceCtorEq, Nat.reduceAdd, Nat.reduceMul, Int.reduceToNat, List.reduceReplicate, Nat.reduceLeDiff, Nat.reduceLT, Int.reduceLT, Int.reduceLE]) fun S hS => cwp_sound _ _ _ _ ?_
  simp (disch := omega) only [s4, go_sem, Nat.reduceEqDiff, ↓reduceIte, reduceCtorEq, Nat.reduceAdd, Nat.reduceMul, Int.reduceToNat, List.reduceReplicate, Nat.reduceLeDiff, Nat.reduceLT, Int.reduceLT, Int.reduceLE]
  apply callR_lend (bytes_ok [form, w] (by simp))
  · simp (disch := omega) only [go_sem, Nat.reduceEqDiff, ↓reduceIte, reduceCtorEq, Nat.reduceAdd, Nat.reduceMul, Int.reduceToNat, List.reduceReplicate, Nat.reduceLeDiff, Nat.reduceLT, Int.reduceLT, Int.reduceLE]; rfl
  · rintro _ ⟨n, rfl⟩; rfl
  rintro _ ⟨n, rfl⟩
  repeat' (first | (with_reducible refine in_seq ?_) | (with_reducible refine in_reg ?_) | (with_reducible refine in_block ?_) | (with_reducible refine in_cond ?_) | (with_reducible refine in_ret ?_) | (with_reducible refine in_skip ?_) | (simp (disch := omega) only [go_sem, Nat.reduceEqDiff, ↓reduceIte, reduceCtorEq, Nat.reduceAdd, Nat.reduceMul, Int.reduceToNat, List.reduceReplicate, Nat.reduceLeDiff, Nat.reduceLT, Int.reduceLT, Int.reduceLE]) | (with_reducible refine giv_intro fun _h => ?_) | ((first | with_reducible refine br_dec (fun _h => ?_) (fun _h => ?_) | with_reducible refine br_ndec (fun _h => ?_) (fun _h => ?_)) <;> (first | simp only [decide_eq_false _h] | simp only [decide_eq_true _h] | skip)) | ((first | with_reducible refine br_not (fun _h => ?_) (fun _h => ?_) | with_reducible refine br_var (fun _h => ?_) (fun _h => ?_)) <;> (try simp only [_h])) | ((with_reducible apply call (known_ok)); (focus (simp (disch := omega) only [go_sem, Nat.reduceEqDiff, ↓reduceIte, reduceCtorEq, Nat.reduceAdd, Nat.reduceMul, Int.reduceToNat, List.reduceReplicate, Nat.reduceLeDiff, Nat.reduceLT, Int.reduceLT, Int.reduceLE]; (try rfl); done))) | ((with_reducible apply call (Unweave_ok _ _)); (focus (simp (disch := omega) only [go_sem, Nat.reduceEqDiff, ↓reduceIte, reduceCtorEq, Nat.reduceAdd, Nat.reduceMul, Int.reduceToNat, List.reduceReplicate, Nat.reduceLeDiff, Nat.reduceLT, Int.reduceLT, Int.reduceLE]; (try rfl); done))) | fail)
  (refine loopC hS [0, 1, 5, 6] (by simp only [go_sem, Nat.reduceEqDiff, ↓reduceIte, reduceCtorEq, Nat.reduceAdd, Nat.reduceMul, Int.reduceToNat, List.reduceReplicate, Nat.reduceLeDiff, Nat.reduceLT, Int.reduceLT, Int.reduceLE]; try rfl) (fun (i : Nat) => [(7, intA i)]) (fun (i : Nat) => [none]) (fun (i : Nat) => i ≤ (unweaveV w form).length) (fun (i : Nat) => (unweaveV w form).length - i) (0) ?h01 ?hn1 ?rd1; case hn1 => (intro s; first | rfl | (rcases s with ⟨_, _⟩; rfl) | (rcases s with ⟨_, _, _⟩; rfl) | (rcases s with ⟨_, _, _, _⟩; rfl) | (rcases s with ⟨_, _, _, _, _⟩; rfl)))
  · simp (disch := omega) only [go_sem, Nat.reduceEqDiff, ↓reduceIte, reduceCtorEq, Nat.reduceAdd, Nat.reduceMul, Int.reduceToNat, List.reduceReplicate, Nat.reduceLeDiff, Nat.reduceLT, Int.reduceLT, Int.reduceLE]; simp
  rintro i hi
  have hmem : ∀ h : i < (unweaveV w form).length, _ := fun h => unweave_mem (nth_mem h)
  have hasc : ∀ h : i < (unweaveV w form).length, 0 < i → (nth (unweaveV w form) (i - 1)).length < (nth (unweaveV w form) i).length := fun h h0 => by
    rw [nth_eq h, nth_eq (by omega)]
    exact List.pairwise_iff_getElem.1 (unweave_asc w form) (i - 1) i (by omega) h (by omega)
  repeat' (first | (with_reducible refine in_seq ?_) | (with_reducible refine in_reg ?_) | (with_reducible refine in_block ?_) | (with_reducible refine in_cond ?_) | (with_reducible refine in_ret ?_) | (with_reducible refine in_skip ?_) | (simp (disch := omega) only [go_sem, Nat.reduceEqDiff, ↓reduceIte, reduceCtorEq, Nat.reduceAdd, Nat.reduceMul, Int.reduceToNat, List.reduceReplicate, Nat.reduceLeDiff, Nat.reduceLT, Int.reduceLT, Int.reduceLE]) | (with_reducible refine giv_intro fun _h => ?_) | ((first | with_reducible refine br_dec (fun _h => ?_) (fun _h => ?_) | with_reducible refine br_ndec (fun _h => ?_) (fun _h => ?_)) <;> (first | simp only [decide_eq_false _h] | simp only [decide_eq_true _h] | skip)) | ((first | with_reducible refine br_not (fun _h => ?_) (fun _h => ?_) | with_reducible refine br_var (fun _h => ?_) (fun _h => ?_)) <;> (try simp only [_h])) | ((with_reducible apply call (known_ok)); (focus (simp (disch := omega) only [go_sem, Nat.reduceEqDiff, ↓reduceIte, reduceCtorEq, Nat.reduceAdd, Nat.reduceMul, Int.reduceToNat, List.reduceReplicate, Nat.reduceLeDiff, Nat.reduceLT, Int.reduceLT, Int.reduceLE]; (try rfl); done))) | ((with_reducible apply call (Weave_ok _ _)); (focus (simp (disch := omega) only [go_sem, Nat.reduceEqDiff, ↓reduceIte, reduceCtorEq, Nat.reduceAdd, Nat.reduceMul, Int.reduceToNat, List.reduceReplicate, Nat.reduceLeDiff, Nat.reduceLT, Int.reduceLT, Int.reduceLE]; (try rfl); done))) | ((with_reducible apply call_D (Same_ok _ _)); (focus (simp (disch := omega) only [go_sem, Nat.reduceEqDiff, ↓reduceIte, reduceCtorEq, Nat.reduceAdd, Nat.reduceMul, Int.reduceToNat, List.reduceReplicate, Nat.reduceLeDiff, Nat.reduceLT, Int.reduceLT, Int.reduceLE]; (try rfl); done))) | ((with_reducible apply call_D (Compare_ok _ _)); (focus (simp (disch := omega) only [go_sem, Nat.reduceEqDiff, ↓reduceIte, reduceCtorEq, Nat.reduceAdd, Nat.reduceMul, Int.reduceToNat, List.reduceReplicate, Nat.reduceLeDiff, Nat.reduceLT, Int.reduceLT, Int.reduceLE]; (try rfl); done))) | fail)
  · exact _h (hmem (by assumption)).1
  · exact _h (hmem (by assumption)).2
  · have h1 := hasc (by assumption) (by omega)
    rw [show ((i : Int) - 1).toNat = i - 1 by omega, compL, if_pos h1] at _h
    omega
  · exact ⟨i + 1, ⟨by omega, by omega⟩, by omega⟩
  · exact ⟨i + 1, ⟨by omega, by omega⟩, by omega⟩
end Go.Proofs.Ytpfoflhhbkjngaa.Ev

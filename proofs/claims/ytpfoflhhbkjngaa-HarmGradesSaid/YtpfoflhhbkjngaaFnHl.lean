/- The begin of a word changed: Mutate by both; the law HarmGrades. -/
import Derived.Test.YtpfoflhhbkjngaaFnHk
set_option linter.unusedVariables false
set_option linter.unusedSimpArgs false
namespace Go.Proofs.Ytpfoflhhbkjngaa.Ev
open Go Go.Proofs

/-- The grade that is taken among the first i, by its place. -/
def bestK (l : List Grade) (w : List Str) : Nat → Int
  | 0 => -1
  | i + 1 => if begB w (nth l i).1 = true ∧ (bestK l w i < 0 ∨ (nth l (bestK l w i).toNat).1.length < (nth l i).1.length) then i else bestK l w i
theorem bestK_range (l : List Grade) (w : List Str) : ∀ i : Nat, -1 ≤ bestK l w i ∧ bestK l w i < i ∧ (0 ≤ bestK l w i → begB w (nth l (bestK l w i).toNat).1 = true)
  | 0 => by simp [bestK]
  | i + 1 => by
    have := bestK_range l w i
    simp only [bestK]
    split
    · rename_i h
      exact ⟨by omega, by omega, fun _ => by rw [Int.toNat_natCast]; exact h.1⟩
    · exact ⟨this.1, by omega, this.2.2⟩
def mutE0 (l : List Grade) (w : List Str) : Int := firstE [grdErr l, wordsErr [w]]
def mutT (l : List Grade) (w : List Str) : List Str × Bool × Int :=
  if mutE0 l w ≠ 0 then ([], false, mutE0 l w) else if bestK l w l.length < 0 then (w, false, 0) else
    let o := turnL w 0 (nth l (bestK l w l.length).toNat).1.length (nth l (bestK l w l.length).toNat).2
    (heldV o, decide (heldE o = 0), heldE o)
/-- ablaut/harm.Mutate: 2 parameters, 0 captured -/
def s38 : SC := .seq (.reg [⟨(some 4), .mv (.c (.slice none 0 0)), none⟩,
     ⟨(some 5), .mv (.c (.bool false)), none⟩,
     ⟨(some 6), .mv (.c (.int .i64 0)), none⟩])
  (.seq (.seq (.reg [⟨(some 11), .mv (.t 0), none⟩,
       ⟨(some 12), .call (.f 77) [(.t 11)], none⟩,
       ⟨(some 13), .mv (.t 1), none⟩,
       ⟨(some 14), .buildSl 22 1 1 [(.slice none 0 0)] [(0, 1, (.t 13))], none⟩,
       ⟨(some 15), .call (.f 53) [(.t 14)], none⟩,
       ⟨(some 16), .buildSl 25 1 2 [(.int .i64 0)] [(0, 1, (.t 12)), (1, 1, (.t 15))], none⟩,
       ⟨(some 17), .call (.f 62) [(.t 16)], none⟩,
       ⟨(some 7), .mv (.t 17), none⟩])
    (.seq (.reg [⟨(some 18), .mv (.t 7), none⟩,
        ⟨(some 19), .bin .neq (.t 18) (.c (.int .i64 0)), none⟩])
     (.cond (.t 19) (.seq (.reg [⟨(some 20), .mv (.t 7), none⟩,
          ⟨(some 4), .mv (.c (.slice none 0 0)), none⟩,
          ⟨(some 5), .mv (.c (.bool false)), none⟩,
          ⟨(some 6), .mv (.t 20), none⟩])
       (.ret)) (.skip))))
   (.seq (.reg [⟨(some 8), .mv (.c (.int .i64 (-1))), none⟩])
    (.seq (.seq (.reg [⟨(some 21), .mv (.t 0), none⟩,
         ⟨(some 22), .lenL (.t 21), none⟩,
         ⟨(some 23), .mv (.c (.int .i64 0)), none⟩])
      (.block 0 (.loop (.seq (.reg [⟨(some 24), .bin .lss (.t 23) (.t 22), none⟩])
         (.seq (.cond (.t 24) (.skip) (.exit 0))
          (.seq (.block 1 (.seq (.reg [⟨(some 25), .mv (.t 23), none⟩,
                ⟨(some 26), .iaddr 2 (.t 21) (.t 23), none⟩,
                ⟨(some 27), .load (some 2) (.t 26), none⟩,
                ⟨(some 10), .alloc 92 2 [(.slice none 0 0), (.slice none 0 0)], none⟩,
                ⟨(some 9), .mv (.t 25), none⟩,
                ⟨none, .store 2 (.t 10) (.t 27), none⟩])
             (.seq (.regD [⟨(some 28), .mv (.t 1), none⟩,
                 ⟨(some 29), .faddr 0 (.t 10), none⟩,
                 ⟨(some 30), .load none (.t 29), none⟩,
                 ⟨(some 31), .call (.f 82) [(.t 28), (.t 30)], none⟩,
                 ⟨(some 32), .mv (.t 31), none⟩,
                 ⟨(some 33), .mv (.t 8), some (32, true)⟩,
                 ⟨(some 34), .bin .lss (.t 33) (.c (.int .i64 0)), some (32, true)⟩,
                 ⟨(some 35), .mv (.t 34), some (32, true)⟩,
                 ⟨(some 36), .faddr 0 (.t 10), some (35, false)⟩,
                 ⟨(some 37), .load none (.t 36), some (35, false)⟩,
                 ⟨(some 38), .lenL (.t 37), some (35, false)⟩,
                 ⟨(some 39), .mv (.t 0), some (35, false)⟩,
                 ⟨(some 40), .mv (.t 8), some (35, false)⟩,
                 ⟨(some 41), .iaddr 2 (.t 39) (.t 40), some (35, false)⟩,
                 ⟨(some 42), .faddr 0 (.t 41), some (35, false)⟩,
                 ⟨(some 43), .load none (.t 42), some (35, false)⟩,
                 ⟨(some 44), .lenL (.t 43), some (35, false)⟩,
                 ⟨(some 45), .bin .gtr (.t 38) (.t 44), some (35, false)⟩,
                 ⟨(some 46), .pick (.t 35) (.c (.bool true)) (.t 45), some (32, true)⟩,
                 ⟨(some 47), .pick (.t 32) (.t 46) (.c (.bool false)), none⟩])
              (.cond (.t 47) (.reg [⟨(some 48), .mv (.t 9), none⟩,
                  ⟨(some 8), .mv (.t 48), none⟩]) (.skip)))))
           (.reg [⟨(some 49), .bin .add (.t 23) (.c (.int .i64 1)), none⟩,
              ⟨(some 23), .mv (.t 49), none⟩])))))))
     (.seq (.seq (.reg [⟨(some 50), .mv (.t 8), none⟩,
          ⟨(some 51), .bin .lss (.t 50) (.c (.int .i64 0)), none⟩])
       (.cond (.t 51) (.seq (.reg [⟨(some 52), .mv (.t 1), none⟩,
            ⟨(some 53), .call (.f 79) [(.t 52)], none⟩,
            ⟨(some 4), .mv (.t 53), none⟩,
            ⟨(some 5), .mv (.c (.bool false)), none⟩,
            ⟨(some 6), .mv (.c (.int .i64 0)), none⟩])
         (.ret)) (.skip)))
      (.seq (.regD [⟨(some 54), .mv (.t 1), none⟩,
          ⟨(some 55), .mv (.t 0), none⟩,
          ⟨(some 56), .mv (.t 8), none⟩,
          ⟨(some 57), .iaddr 2 (.t 55) (.t 56), none⟩,
          ⟨(some 58), .faddr 0 (.t 57), none⟩,
          ⟨(some 59), .load none (.t 58), none⟩,
          ⟨(some 60), .lenL (.t 59), none⟩,
          ⟨(some 61), .mv (.t 0), none⟩,
          ⟨(some 62), .mv (.t 8), none⟩,
          ⟨(some 63), .iaddr 2 (.t 61) (.t 62), none⟩,
          ⟨(some 64), .faddr 1 (.t 63), none⟩,
          ⟨(some 65), .load none (.t 64), none⟩,
          ⟨(some 66), .call (.f 78) [(.t 54), (.c (.int .i64 0)), (.t 60), (.t 65)], none⟩,
          ⟨(some 67), .ext (.t 66) 0, none⟩,
          ⟨(some 68), .ext (.t 66) 1, none⟩,
          ⟨(some 69), .ext (.t 66) 2, none⟩,
          ⟨(some 4), .mv (.t 67), none⟩,
          ⟨(some 5), .mv (.t 68), none⟩,
          ⟨(some 6), .mv (.t 69), none⟩])
       (.ret))))))
theorem s38_ok : lookF Try.prog 38 = some (s38, 70, [.tmp 4, .tmp 5, .tmp 6]) := by kernel_rfl
set_option maxHeartbeats 2000000 in
theorem hMutate_ok (l : List Grade) (w : List Str) : Fn P 38 [sl l, sl w] (tri (mutT l w)) := by
  have c1 := hGrades_ok l
  have c3 := words_ok [w]
  have c4 := first_ok [grdErr l, wordsErr [w]]
  by_cases h : mutE0 l w = 0
  · obtain ⟨h1, h3⟩ := two_zero h
    have hw := wordErr_len (wordsErr_one h3)
    have hg := grd_good h1
    have hgT : mutT l w = if bestK l w l.length < 0 then (w, false, 0) else (heldV (turnL w 0 (nth l (bestK l w l.length).toNat).1.length (nth l (bestK l w l.length).toNat).2), decide (heldE (turnL w 0 (nth l (bestK l w l.length).toNat).1.length (nth l (bestK l w l.length).toNat).2) = 0), heldE (turnL w 0 (nth l (bestK l w l.length).toNat).1.length (nth l (bestK l w l.length).toNat).2)) := by rw [mutT, if_neg (by omega)]
    rw [show firstE [grdErr l, wordsErr [w]] = 0 from h] at c4
    rw [hgT]
    have k9 := cloneS_ok w (by omega)
    (refine fn_look s38_ok (by simp) (by intro k; simp only [go_sem, Nat.reduceEqDiff, ↓reduceIte, reduceCtorEq, Nat.reduceAdd, Nat.reduceMul, Int.reduceToNat, List.reduceReplicate, Nat.reduceLeDiff, Nat.reduceLT, Int.reduceLT, Int.reduceLE, Int.reduceEq]) fun S hS => cwp_sound _ _ _ _ ?_; simp (disch := omega) only [s38, go_sem, Nat.reduceEqDiff, ↓reduceIte, reduceCtorEq, Nat.reduceAdd, Nat.reduceMul, Int.reduceToNat, List.reduceReplicate, Nat.reduceLeDiff, Nat.reduceLT, Int.reduceLT, Int.reduceLE, Int.reduceEq])
    repeat' (first | (with_reducible refine in_seq ?_) | (with_reducible refine in_reg ?_) | (with_reducible refine in_block ?_) | (with_reducible refine in_cond ?_) | (with_reducible refine in_ret ?_) | (with_reducible refine in_skip ?_) | (simp (disch := omega) only [go_sem, Nat.reduceEqDiff, ↓reduceIte, reduceCtorEq, Nat.reduceAdd, Nat.reduceMul, Int.reduceToNat, List.reduceReplicate, Nat.reduceLeDiff, Nat.reduceLT, Int.reduceLT, Int.reduceLE, Int.reduceEq]) | (with_reducible refine giv_intro fun _h => ?_) | (with_reducible refine alt_intro ?_ (fun _h => ?_)) | ((first | with_reducible refine br_dec (fun _h => ?_) (fun _h => ?_) | with_reducible refine br_ndec (fun _h => ?_) (fun _h => ?_)) <;> (first | (exfalso; omega) | simp only [decide_eq_false _h] | simp only [decide_eq_true _h] | skip)) | ((first | with_reducible refine br_not (fun _h => ?_) (fun _h => ?_) | with_reducible refine br_var (fun _h => ?_) (fun _h => ?_)) <;> (try simp only [_h])) | ((with_reducible apply call (c1)); (focus (simp (disch := omega) only [go_sem, Nat.reduceEqDiff, ↓reduceIte, reduceCtorEq, Nat.reduceAdd, Nat.reduceMul, Int.reduceToNat, List.reduceReplicate, Nat.reduceLeDiff, Nat.reduceLT, Int.reduceLT, Int.reduceLE, Int.reduceEq]; (try rfl); done))) | ((with_reducible apply call_lend (c3)); (focus (simp (disch := omega) only [go_sem, Nat.reduceEqDiff, ↓reduceIte, reduceCtorEq, Nat.reduceAdd, Nat.reduceMul, Int.reduceToNat, List.reduceReplicate, Nat.reduceLeDiff, Nat.reduceLT, Int.reduceLT, Int.reduceLE, Int.reduceEq]; (try rfl); done)); (focus rfl)) | ((with_reducible apply call_lend (c4)); (focus (simp (disch := omega) only [go_sem, Nat.reduceEqDiff, ↓reduceIte, reduceCtorEq, Nat.reduceAdd, Nat.reduceMul, Int.reduceToNat, List.reduceReplicate, Nat.reduceLeDiff, Nat.reduceLT, Int.reduceLT, Int.reduceLE, Int.reduceEq]; (try rfl); done)); (focus rfl)) | fail)
    (refine loopC hS [0, 1, 21, 22] (by simp only [go_sem, Nat.reduceEqDiff, ↓reduceIte, reduceCtorEq, Nat.reduceAdd, Nat.reduceMul, Int.reduceToNat, List.reduceReplicate, Nat.reduceLeDiff, Nat.reduceLT, Int.reduceLT, Int.reduceLE, Int.reduceEq]; try rfl) (fun (i : Nat) => [(8, intA (bestK l w i)), (23, intA i)]) (fun (i : Nat) => [none, none]) (fun (i : Nat) => i ≤ l.length) (fun (i : Nat) => l.length - i) (0) ?h01 ?hn1 ?rd1; case hn1 => (intro s; first | rfl | (rcases s with ⟨_, _⟩; rfl) | (rcases s with ⟨_, _, _⟩; rfl) | (rcases s with ⟨_, _, _, _⟩; rfl) | (rcases s with ⟨_, _, _, _, _⟩; rfl)))
    · simp (disch := omega) only [go_sem, Nat.reduceEqDiff, ↓reduceIte, reduceCtorEq, Nat.reduceAdd, Nat.reduceMul, Int.reduceToNat, List.reduceReplicate, Nat.reduceLeDiff, Nat.reduceLT, Int.reduceLT, Int.reduceLE, Int.reduceEq]; simp [bestK]
    rintro i hi
    replace hi : i ≤ l.length := hi
    have hr := bestK_range l w i
    by_cases hil : i < l.length
    · have hgi := hg.2 _ (nth_mem hil)
      have d1 := hBegins_ok w (nth l i).1
      have hb : bestK l w (i + 1) = if begB w (nth l i).1 = true ∧ (bestK l w i < 0 ∨ (nth l (bestK l w i).toNat).1.length < (nth l i).1.length) then (i : Int) else bestK l w i := rfl
      generalize hk : bestK l w i = k at *
      have hkl : 0 ≤ k → k.toNat < l.length := fun h => by omega
      have hkb : 0 ≤ k → (nth l k.toNat).1.length ≤ 60 := fun h => (hg.2 _ (nth_mem (hkl h))).1
      by_cases hk0 : k < 0
      · repeat' (first | (with_reducible refine in_seq ?_) | (with_reducible refine in_reg ?_) | (with_reducible refine in_block ?_) | (with_reducible refine in_cond ?_) | (with_reducible refine in_ret ?_) | (with_reducible refine in_skip ?_) | (simp (disch := omega) only [go_sem, Nat.reduceEqDiff, ↓reduceIte, reduceCtorEq, Nat.reduceAdd, Nat.reduceMul, Int.reduceToNat, List.reduceReplicate, Nat.reduceLeDiff, Nat.reduceLT, Int.reduceLT, Int.reduceLE, Int.reduceEq]) | (with_reducible refine giv_intro fun _h => ?_) | (with_reducible refine alt_intro ?_ (fun _h => ?_)) | ((first | with_reducible refine br_dec (fun _h => ?_) (fun _h => ?_) | with_reducible refine br_ndec (fun _h => ?_) (fun _h => ?_)) <;> (first | (exfalso; omega) | simp only [decide_eq_false _h] | simp only [decide_eq_true _h] | skip)) | ((first | with_reducible refine br_not (fun _h => ?_) (fun _h => ?_) | with_reducible refine br_var (fun _h => ?_) (fun _h => ?_)) <;> (try simp only [_h])) | ((with_reducible apply call_D (d1)); (focus (simp (disch := omega) only [go_sem, Nat.reduceEqDiff, ↓reduceIte, reduceCtorEq, Nat.reduceAdd, Nat.reduceMul, Int.reduceToNat, List.reduceReplicate, Nat.reduceLeDiff, Nat.reduceLT, Int.reduceLT, Int.reduceLE, Int.reduceEq]; (try rfl); done))) | fail)
        all_goals
          refine ⟨i + 1, ⟨by omega, by omega⟩, ?_, by omega⟩
          rw [hb]
          first
            | rw [if_pos ⟨by assumption, by omega⟩]
            | rw [if_neg (fun h => by have := h.1; rw [_h] at this; cases this)]
      · have hkl' := hkl (by omega)
        have hkb' := hkb (by omega)
        repeat' (first | (with_reducible refine in_seq ?_) | (with_reducible refine in_reg ?_) | (with_reducible refine in_block ?_) | (with_reducible refine in_cond ?_) | (with_reducible refine in_ret ?_) | (with_reducible refine in_skip ?_) | (simp (disch := omega) only [go_sem, Nat.reduceEqDiff, ↓reduceIte, reduceCtorEq, Nat.reduceAdd, Nat.reduceMul, Int.reduceToNat, List.reduceReplicate, Nat.reduceLeDiff, Nat.reduceLT, Int.reduceLT, Int.reduceLE, Int.reduceEq]) | (with_reducible refine giv_intro fun _h => ?_) | (with_reducible refine alt_intro ?_ (fun _h => ?_)) | ((first | with_reducible refine br_dec (fun _h => ?_) (fun _h => ?_) | with_reducible refine br_ndec (fun _h => ?_) (fun _h => ?_)) <;> (first | (exfalso; omega) | simp only [decide_eq_false _h] | simp only [decide_eq_true _h] | skip)) | ((first | with_reducible refine br_not (fun _h => ?_) (fun _h => ?_) | with_reducible refine br_var (fun _h => ?_) (fun _h => ?_)) <;> (try simp only [_h])) | ((with_reducible apply call_D (d1)); (focus (simp (disch := omega) only [go_sem, Nat.reduceEqDiff, ↓reduceIte, reduceCtorEq, Nat.reduceAdd, Nat.reduceMul, Int.reduceToNat, List.reduceReplicate, Nat.reduceLeDiff, Nat.reduceLT, Int.reduceLT, Int.reduceLE, Int.reduceEq]; (try rfl); done))) | fail)
        all_goals
          refine ⟨i + 1, ⟨by omega, by omega⟩, ?_, by omega⟩
          rw [hb]
          first
            | rw [if_pos ⟨by assumption, by omega⟩]
            | rw [if_neg (fun h => by have := h.2; omega)]
            | rw [if_neg (fun h => by have := h.1; rw [_h] at this; cases this)]
    · have hii : i = l.length := by omega
      subst hii
      generalize hk : bestK l w l.length = k at *
      by_cases hk0 : k < 0
      · rw [if_pos hk0]
        repeat' (first | (with_reducible refine in_seq ?_) | (with_reducible refine in_reg ?_) | (with_reducible refine in_block ?_) | (with_reducible refine in_cond ?_) | (with_reducible refine in_ret ?_) | (with_reducible refine in_skip ?_) | (simp (disch := omega) only [go_sem, Nat.reduceEqDiff, ↓reduceIte, reduceCtorEq, Nat.reduceAdd, Nat.reduceMul, Int.reduceToNat, List.reduceReplicate, Nat.reduceLeDiff, Nat.reduceLT, Int.reduceLT, Int.reduceLE, Int.reduceEq]) | (with_reducible refine giv_intro fun _h => ?_) | (with_reducible refine alt_intro ?_ (fun _h => ?_)) | ((first | with_reducible refine br_dec (fun _h => ?_) (fun _h => ?_) | with_reducible refine br_ndec (fun _h => ?_) (fun _h => ?_)) <;> (first | (exfalso; omega) | simp only [decide_eq_false _h] | simp only [decide_eq_true _h] | skip)) | ((first | with_reducible refine br_not (fun _h => ?_) (fun _h => ?_) | with_reducible refine br_var (fun _h => ?_) (fun _h => ?_)) <;> (try simp only [_h])) | ((with_reducible apply call (k9)); (focus (simp (disch := omega) only [go_sem, Nat.reduceEqDiff, ↓reduceIte, reduceCtorEq, Nat.reduceAdd, Nat.reduceMul, Int.reduceToNat, List.reduceReplicate, Nat.reduceLeDiff, Nat.reduceLT, Int.reduceLT, Int.reduceLE, Int.reduceEq]; (try rfl); done))) | fail)
      · rw [if_neg hk0]
        have hkl : k.toNat < l.length := by omega
        have hgk := hg.2 _ (nth_mem hkl)
        have hbb := hr.2.2 (by omega)
        simp only [begB, Bool.and_eq_true, decide_eq_true_eq] at hbb
        have c5 := turned_ok w (nth l k.toNat).2 0 (nth l k.toNat).1.length (by omega) (by omega) (by omega) (by omega)
        rw [show ((0 : Nat) : Int) = 0 from rfl] at c5
        repeat' (first | (with_reducible refine in_seq ?_) | (with_reducible refine in_reg ?_) | (with_reducible refine in_block ?_) | (with_reducible refine in_cond ?_) | (with_reducible refine in_ret ?_) | (with_reducible refine in_skip ?_) | (simp (disch := omega) only [go_sem, Nat.reduceEqDiff, ↓reduceIte, reduceCtorEq, Nat.reduceAdd, Nat.reduceMul, Int.reduceToNat, List.reduceReplicate, Nat.reduceLeDiff, Nat.reduceLT, Int.reduceLT, Int.reduceLE, Int.reduceEq]) | (with_reducible refine giv_intro fun _h => ?_) | (with_reducible refine alt_intro ?_ (fun _h => ?_)) | ((first | with_reducible refine br_dec (fun _h => ?_) (fun _h => ?_) | with_reducible refine br_ndec (fun _h => ?_) (fun _h => ?_)) <;> (first | (exfalso; omega) | simp only [decide_eq_false _h] | simp only [decide_eq_true _h] | skip)) | ((first | with_reducible refine br_not (fun _h => ?_) (fun _h => ?_) | with_reducible refine br_var (fun _h => ?_) (fun _h => ?_)) <;> (try simp only [_h])) | ((with_reducible apply call_D (c5)); (focus (simp (disch := omega) only [go_sem, Nat.reduceEqDiff, ↓reduceIte, reduceCtorEq, Nat.reduceAdd, Nat.reduceMul, Int.reduceToNat, List.reduceReplicate, Nat.reduceLeDiff, Nat.reduceLT, Int.reduceLT, Int.reduceLE, Int.reduceEq]; (try rfl); done))) | fail)
  · have e : mutT l w = ([], false, mutE0 l w) := by rw [mutT, if_pos h]
    rw [e]
    rw [show firstE [grdErr l, wordsErr [w]] = mutE0 l w from rfl] at c4
    (refine fn_look s38_ok (by simp) (by intro k; simp only [go_sem, Nat.reduceEqDiff, ↓reduceIte, reduceCtorEq, Nat.reduceAdd, Nat.reduceMul, Int.reduceToNat, List.reduceReplicate, Nat.reduceLeDiff, Nat.reduceLT, Int.reduceLT, Int.reduceLE, Int.reduceEq]) fun S hS => cwp_sound _ _ _ _ ?_; simp (disch := omega) only [s38, go_sem, Nat.reduceEqDiff, ↓reduceIte, reduceCtorEq, Nat.reduceAdd, Nat.reduceMul, Int.reduceToNat, List.reduceReplicate, Nat.reduceLeDiff, Nat.reduceLT, Int.reduceLT, Int.reduceLE, Int.reduceEq])
    repeat' (first | (with_reducible refine in_seq ?_) | (with_reducible refine in_reg ?_) | (with_reducible refine in_block ?_) | (with_reducible refine in_cond ?_) | (with_reducible refine in_ret ?_) | (with_reducible refine in_skip ?_) | (simp (disch := omega) only [go_sem, Nat.reduceEqDiff, ↓reduceIte, reduceCtorEq, Nat.reduceAdd, Nat.reduceMul, Int.reduceToNat, List.reduceReplicate, Nat.reduceLeDiff, Nat.reduceLT, Int.reduceLT, Int.reduceLE, Int.reduceEq]) | (with_reducible refine giv_intro fun _h => ?_) | (with_reducible refine alt_intro ?_ (fun _h => ?_)) | ((first | with_reducible refine br_dec (fun _h => ?_) (fun _h => ?_) | with_reducible refine br_ndec (fun _h => ?_) (fun _h => ?_)) <;> (first | (exfalso; omega) | simp only [decide_eq_false _h] | simp only [decide_eq_true _h] | skip)) | ((first | with_reducible refine br_not (fun _h => ?_) (fun _h => ?_) | with_reducible refine br_var (fun _h => ?_) (fun _h => ?_)) <;> (try simp only [_h])) | ((with_reducible apply call (c1)); (focus (simp (disch := omega) only [go_sem, Nat.reduceEqDiff, ↓reduceIte, reduceCtorEq, Nat.reduceAdd, Nat.reduceMul, Int.reduceToNat, List.reduceReplicate, Nat.reduceLeDiff, Nat.reduceLT, Int.reduceLT, Int.reduceLE, Int.reduceEq]; (try rfl); done))) | ((with_reducible apply call_lend (c3)); (focus (simp (disch := omega) only [go_sem, Nat.reduceEqDiff, ↓reduceIte, reduceCtorEq, Nat.reduceAdd, Nat.reduceMul, Int.reduceToNat, List.reduceReplicate, Nat.reduceLeDiff, Nat.reduceLT, Int.reduceLT, Int.reduceLE, Int.reduceEq]; (try rfl); done)); (focus rfl)) | ((with_reducible apply call_lend (c4)); (focus (simp (disch := omega) only [go_sem, Nat.reduceEqDiff, ↓reduceIte, reduceCtorEq, Nat.reduceAdd, Nat.reduceMul, Int.reduceToNat, List.reduceReplicate, Nat.reduceLeDiff, Nat.reduceLT, Int.reduceLT, Int.reduceLE, Int.reduceEq]; (try rfl); done)); (focus rfl)) | fail)
    rfl
/-- ablaut/ablautref13.Mutate: 2 parameters, 0 captured -/
def s39 : SC := .seq (.reg [⟨(some 4), .mv (.c (.slice none 0 0)), none⟩,
     ⟨(some 5), .mv (.c (.bool false)), none⟩,
     ⟨(some 6), .mv (.c (.int .i64 0)), none⟩])
  (.seq (.seq (.reg [⟨(some 13), .mv (.t 0), none⟩,
       ⟨(some 14), .call (.f 80) [(.t 13)], none⟩,
       ⟨(some 7), .mv (.t 14), none⟩])
    (.seq (.reg [⟨(some 15), .mv (.t 7), none⟩,
        ⟨(some 16), .bin .neq (.t 15) (.c (.int .i64 0)), none⟩])
     (.cond (.t 16) (.seq (.reg [⟨(some 17), .mv (.t 7), none⟩,
          ⟨(some 4), .mv (.c (.slice none 0 0)), none⟩,
          ⟨(some 5), .mv (.c (.bool false)), none⟩,
          ⟨(some 6), .mv (.t 17), none⟩])
       (.ret)) (.skip))))
   (.seq (.seq (.reg [⟨(some 18), .mv (.t 1), none⟩,
        ⟨(some 19), .call (.f 83) [(.t 18)], none⟩,
        ⟨(some 8), .mv (.t 19), none⟩])
     (.seq (.reg [⟨(some 20), .mv (.t 8), none⟩,
         ⟨(some 21), .bin .neq (.t 20) (.c (.int .i64 0)), none⟩])
      (.cond (.t 21) (.seq (.reg [⟨(some 22), .mv (.t 8), none⟩,
           ⟨(some 4), .mv (.c (.slice none 0 0)), none⟩,
           ⟨(some 5), .mv (.c (.bool false)), none⟩,
           ⟨(some 6), .mv (.t 22), none⟩])
        (.ret)) (.skip))))
    (.seq (.reg [⟨(some 9), .mv (.c (.int .i64 (-1))), none⟩])
     (.seq (.seq (.reg [⟨(some 10), .mv (.c (.int .i64 0)), none⟩])
       (.block 0 (.loop (.seq (.seq (.reg [⟨(some 23), .mv (.t 10), none⟩,
              ⟨(some 24), .mv (.t 0), none⟩,
              ⟨(some 25), .lenL (.t 24), none⟩,
              ⟨(some 26), .bin .lss (.t 23) (.t 25), none⟩])
           (.cond (.t 26) (.skip) (.exit 0)))
          (.seq (.block 1 (.seq (.regD [⟨(some 29), .mv (.t 1), none⟩,
                ⟨(some 30), .mv (.t 0), none⟩,
                ⟨(some 31), .mv (.t 10), none⟩,
                ⟨(some 32), .iaddr 2 (.t 30) (.t 31), none⟩,
                ⟨(some 33), .faddr 0 (.t 32), none⟩,
                ⟨(some 34), .load none (.t 33), none⟩,
                ⟨(some 35), .call (.f 84) [(.t 29), (.t 34)], none⟩,
                ⟨(some 36), .mv (.t 35), none⟩,
                ⟨(some 37), .mv (.t 9), some (36, true)⟩,
                ⟨(some 38), .bin .lss (.t 37) (.c (.int .i64 0)), some (36, true)⟩,
                ⟨(some 39), .mv (.t 38), some (36, true)⟩,
                ⟨(some 40), .mv (.t 0), some (39, false)⟩,
                ⟨(some 41), .mv (.t 10), some (39, false)⟩,
                ⟨(some 42), .iaddr 2 (.t 40) (.t 41), some (39, false)⟩,
                ⟨(some 43), .faddr 0 (.t 42), some (39, false)⟩,
                ⟨(some 44), .load none (.t 43), some (39, false)⟩,
                ⟨(some 45), .lenL (.t 44), some (39, false)⟩,
                ⟨(some 46), .mv (.t 0), some (39, false)⟩,
                ⟨(some 47), .mv (.t 9), some (39, false)⟩,
                ⟨(some 48), .iaddr 2 (.t 46) (.t 47), some (39, false)⟩,
                ⟨(some 49), .faddr 0 (.t 48), some (39, false)⟩,
                ⟨(some 50), .load none (.t 49), some (39, false)⟩,
                ⟨(some 51), .lenL (.t 50), some (39, false)⟩,
                ⟨(some 52), .bin .gtr (.t 45) (.t 51), some (39, false)⟩,
                ⟨(some 53), .pick (.t 39) (.c (.bool true)) (.t 52), some (36, true)⟩,
                ⟨(some 54), .pick (.t 36) (.t 53) (.c (.bool false)), none⟩])
             (.cond (.t 54) (.reg [⟨(some 55), .mv (.t 10), none⟩,
                 ⟨(some 9), .mv (.t 55), none⟩]) (.skip))))
           (.reg [⟨(some 27), .mv (.t 10), none⟩,
              ⟨(some 28), .bin .add (.t 27) (.c (.int .i64 1)), none⟩,
              ⟨(some 10), .mv (.t 28), none⟩]))))))
      (.seq (.seq (.reg [⟨(some 56), .mv (.t 9), none⟩,
           ⟨(some 57), .bin .lss (.t 56) (.c (.int .i64 0)), none⟩])
        (.cond (.t 57) (.seq (.reg [⟨(some 58), .mv (.t 1), none⟩,
             ⟨(some 59), .call (.f 28) [(.t 58), (.c (.slice none 0 0))], none⟩,
             ⟨(some 4), .mv (.t 59), none⟩,
             ⟨(some 5), .mv (.c (.bool false)), none⟩,
             ⟨(some 6), .mv (.c (.int .i64 0)), none⟩])
          (.ret)) (.skip)))
       (.seq (.regD [⟨(some 61), .mv (.t 0), none⟩,
           ⟨(some 62), .mv (.t 9), none⟩,
           ⟨(some 63), .iaddr 2 (.t 61) (.t 62), none⟩,
           ⟨(some 64), .faddr 1 (.t 63), none⟩,
           ⟨(some 65), .load none (.t 64), none⟩,
           ⟨(some 66), .mv (.t 1), none⟩,
           ⟨(some 67), .mv (.t 0), none⟩,
           ⟨(some 68), .mv (.t 9), none⟩,
           ⟨(some 69), .iaddr 2 (.t 67) (.t 68), none⟩,
           ⟨(some 70), .faddr 0 (.t 69), none⟩,
           ⟨(some 71), .load none (.t 70), none⟩,
           ⟨(some 72), .lenL (.t 71), none⟩,
           ⟨(some 73), .sl 1 (.t 66) (some (.t 72)) none, none⟩,
           ⟨(some 74), .call (.f 28) [(.t 65), (.t 73)], none⟩,
           ⟨(some 75), .call (.f 71) [(.t 74)], none⟩,
           ⟨(some 60), .mv (.t 75), none⟩,
           ⟨(some 76), .ext (.t 60) 0, none⟩,
           ⟨(some 77), .ext (.t 60) 1, none⟩,
           ⟨(some 11), .mv (.t 76), none⟩,
           ⟨(some 12), .mv (.t 77), none⟩])
        (.seq (.reg [⟨(some 78), .mv (.t 11), none⟩,
            ⟨(some 79), .mv (.t 12), none⟩,
            ⟨(some 80), .bin .eql (.t 79) (.c (.int .i64 0)), none⟩,
            ⟨(some 81), .mv (.t 12), none⟩,
            ⟨(some 4), .mv (.t 78), none⟩,
            ⟨(some 5), .mv (.t 80), none⟩,
            ⟨(some 6), .mv (.t 81), none⟩])
         (.ret))))))))
theorem s39_ok : lookF Try.prog 39 = some (s39, 82, [.tmp 4, .tmp 5, .tmp 6]) := by kernel_rfl
set_option maxHeartbeats 2000000 in
theorem rMutate_ok (l : List Grade) (w : List Str) : Fn P 39 [sl l, sl w] (tri (mutT l w)) := by
  have c1 := rGrades_ok l
  have c3 := refValidateWord_ok w
  have ew : wordsErr [w] = wordErr w := by simp only [wordsErr]; split <;> omega
  rw [← ew] at c3
  by_cases h : mutE0 l w = 0
  · obtain ⟨h1, h3⟩ := two_zero h
    have hw := wordErr_len (wordsErr_one h3)
    have hg := grd_good h1
    have hgT : mutT l w = if bestK l w l.length < 0 then (w, false, 0) else (heldV (turnL w 0 (nth l (bestK l w l.length).toNat).1.length (nth l (bestK l w l.length).toNat).2), decide (heldE (turnL w 0 (nth l (bestK l w l.length).toNat).1.length (nth l (bestK l w l.length).toNat).2) = 0), heldE (turnL w 0 (nth l (bestK l w l.length).toNat).1.length (nth l (bestK l w l.length).toNat).2)) := by rw [mutT, if_neg (by omega)]
    rw [h1] at c1
    rw [h3] at c3
    rw [hgT]
    have k9 := join_ok w [] (by simp; omega)
    rw [List.append_nil] at k9
    (refine fn_look s39_ok (by simp) (by intro k; simp only [go_sem, Nat.reduceEqDiff, ↓reduceIte, reduceCtorEq, Nat.reduceAdd, Nat.reduceMul, Int.reduceToNat, List.reduceReplicate, Nat.reduceLeDiff, Nat.reduceLT, Int.reduceLT, Int.reduceLE, Int.reduceEq]) fun S hS => cwp_sound _ _ _ _ ?_; simp (disch := omega) only [s39, go_sem, Nat.reduceEqDiff, ↓reduceIte, reduceCtorEq, Nat.reduceAdd, Nat.reduceMul, Int.reduceToNat, List.reduceReplicate, Nat.reduceLeDiff, Nat.reduceLT, Int.reduceLT, Int.reduceLE, Int.reduceEq])
    repeat' (first | (with_reducible refine in_seq ?_) | (with_reducible refine in_reg ?_) | (with_reducible refine in_block ?_) | (with_reducible refine in_cond ?_) | (with_reducible refine in_ret ?_) | (with_reducible refine in_skip ?_) | (simp (disch := omega) only [go_sem, Nat.reduceEqDiff, ↓reduceIte, reduceCtorEq, Nat.reduceAdd, Nat.reduceMul, Int.reduceToNat, List.reduceReplicate, Nat.reduceLeDiff, Nat.reduceLT, Int.reduceLT, Int.reduceLE, Int.reduceEq]) | (with_reducible refine giv_intro fun _h => ?_) | (with_reducible refine alt_intro ?_ (fun _h => ?_)) | ((first | with_reducible refine br_dec (fun _h => ?_) (fun _h => ?_) | with_reducible refine br_ndec (fun _h => ?_) (fun _h => ?_)) <;> (first | (exfalso; omega) | simp only [decide_eq_false _h] | simp only [decide_eq_true _h] | skip)) | ((first | with_reducible refine br_not (fun _h => ?_) (fun _h => ?_) | with_reducible refine br_var (fun _h => ?_) (fun _h => ?_)) <;> (try simp only [_h])) | ((with_reducible apply call (c1)); (focus (simp (disch := omega) only [go_sem, Nat.reduceEqDiff, ↓reduceIte, reduceCtorEq, Nat.reduceAdd, Nat.reduceMul, Int.reduceToNat, List.reduceReplicate, Nat.reduceLeDiff, Nat.reduceLT, Int.reduceLT, Int.reduceLE, Int.reduceEq]; (try rfl); done))) | ((with_reducible apply call (c3)); (focus (simp (disch := omega) only [go_sem, Nat.reduceEqDiff, ↓reduceIte, reduceCtorEq, Nat.reduceAdd, Nat.reduceMul, Int.reduceToNat, List.reduceReplicate, Nat.reduceLeDiff, Nat.reduceLT, Int.reduceLT, Int.reduceLE, Int.reduceEq]; (try rfl); done))) | fail)
    (refine loopC hS [0, 1] (by simp only [go_sem, Nat.reduceEqDiff, ↓reduceIte, reduceCtorEq, Nat.reduceAdd, Nat.reduceMul, Int.reduceToNat, List.reduceReplicate, Nat.reduceLeDiff, Nat.reduceLT, Int.reduceLT, Int.reduceLE, Int.reduceEq]; try rfl) (fun (i : Nat) => [(9, intA (bestK l w i)), (10, intA i)]) (fun (i : Nat) => []) (fun (i : Nat) => i ≤ l.length) (fun (i : Nat) => l.length - i) (0) ?h02 ?hn2 ?rd2; case hn2 => (intro s; first | rfl | (rcases s with ⟨_, _⟩; rfl) | (rcases s with ⟨_, _, _⟩; rfl) | (rcases s with ⟨_, _, _, _⟩; rfl) | (rcases s with ⟨_, _, _, _, _⟩; rfl)))
    · simp (disch := omega) only [go_sem, Nat.reduceEqDiff, ↓reduceIte, reduceCtorEq, Nat.reduceAdd, Nat.reduceMul, Int.reduceToNat, List.reduceReplicate, Nat.reduceLeDiff, Nat.reduceLT, Int.reduceLT, Int.reduceLE, Int.reduceEq]; simp [bestK]
    rintro i hi
    replace hi : i ≤ l.length := hi
    have hr := bestK_range l w i
    by_cases hil : i < l.length
    · have hgi := hg.2 _ (nth_mem hil)
      have d1 := rBegin_ok w (nth l i).1
      have hb : bestK l w (i + 1) = if begB w (nth l i).1 = true ∧ (bestK l w i < 0 ∨ (nth l (bestK l w i).toNat).1.length < (nth l i).1.length) then (i : Int) else bestK l w i := rfl
      generalize hk : bestK l w i = k at *
      have hkl : 0 ≤ k → k.toNat < l.length := fun h => by omega
      have hkb : 0 ≤ k → (nth l k.toNat).1.length ≤ 60 := fun h => (hg.2 _ (nth_mem (hkl h))).1
      by_cases hk0 : k < 0
      · repeat' (first | (with_reducible refine in_seq ?_) | (with_reducible refine in_reg ?_) | (with_reducible refine in_block ?_) | (with_reducible refine in_cond ?_) | (with_reducible refine in_ret ?_) | (with_reducible refine in_skip ?_) | (simp (disch := omega) only [go_sem, Nat.reduceEqDiff, ↓reduceIte, reduceCtorEq, Nat.reduceAdd, Nat.reduceMul, Int.reduceToNat, List.reduceReplicate, Nat.reduceLeDiff, Nat.reduceLT, Int.reduceLT, Int.reduceLE, Int.reduceEq]) | (with_reducible refine giv_intro fun _h => ?_) | (with_reducible refine alt_intro ?_ (fun _h => ?_)) | ((first | with_reducible refine br_dec (fun _h => ?_) (fun _h => ?_) | with_reducible refine br_ndec (fun _h => ?_) (fun _h => ?_)) <;> (first | (exfalso; omega) | simp only [decide_eq_false _h] | simp only [decide_eq_true _h] | skip)) | ((first | with_reducible refine br_not (fun _h => ?_) (fun _h => ?_) | with_reducible refine br_var (fun _h => ?_) (fun _h => ?_)) <;> (try simp only [_h])) | ((with_reducible apply call_D (d1)); (focus (simp (disch := omega) only [go_sem, Nat.reduceEqDiff, ↓reduceIte, reduceCtorEq, Nat.reduceAdd, Nat.reduceMul, Int.reduceToNat, List.reduceReplicate, Nat.reduceLeDiff, Nat.reduceLT, Int.reduceLT, Int.reduceLE, Int.reduceEq]; (try rfl); done))) | fail)
        all_goals
          refine ⟨i + 1, ⟨by omega, by omega⟩, ?_, by omega⟩
          rw [hb]
          first
            | rw [if_pos ⟨by assumption, by omega⟩]
            | rw [if_neg (fun h => by have := h.1; rw [_h] at this; cases this)]
      · have hkl' := hkl (by omega)
        have hkb' := hkb (by omega)
        repeat' (first | (with_reducible refine in_seq ?_) | (with_reducible refine in_reg ?_) | (with_reducible refine in_block ?_) | (with_reducible refine in_cond ?_) | (with_reducible refine in_ret ?_) | (with_reducible refine in_skip ?_) | (simp (disch := omega) only [go_sem, Nat.reduceEqDiff, ↓reduceIte, reduceCtorEq, Nat.reduceAdd, Nat.reduceMul, Int.reduceToNat, List.reduceReplicate, Nat.reduceLeDiff, Nat.reduceLT, Int.reduceLT, Int.reduceLE, Int.reduceEq]) | (with_reducible refine giv_intro fun _h => ?_) | (with_reducible refine alt_intro ?_ (fun _h => ?_)) | ((first | with_reducible refine br_dec (fun _h => ?_) (fun _h => ?_) | with_reducible refine br_ndec (fun _h => ?_) (fun _h => ?_)) <;> (first | (exfalso; omega) | simp only [decide_eq_false _h] | simp only [decide_eq_true _h] | skip)) | ((first | with_reducible refine br_not (fun _h => ?_) (fun _h => ?_) | with_reducible refine br_var (fun _h => ?_) (fun _h => ?_)) <;> (try simp only [_h])) | ((with_reducible apply call_D (d1)); (focus (simp (disch := omega) only [go_sem, Nat.reduceEqDiff, ↓reduceIte, reduceCtorEq, Nat.reduceAdd, Nat.reduceMul, Int.reduceToNat, List.reduceReplicate, Nat.reduceLeDiff, Nat.reduceLT, Int.reduceLT, Int.reduceLE, Int.reduceEq]; (try rfl); done))) | fail)
        all_goals
          refine ⟨i + 1, ⟨by omega, by omega⟩, ?_, by omega⟩
          rw [hb]
          first
            | rw [if_pos ⟨by assumption, by omega⟩]
            | rw [if_neg (fun h => by have := h.2; omega)]
            | rw [if_neg (fun h => by have := h.1; rw [_h] at this; cases this)]
    · have hii : i = l.length := by omega
      subst hii
      generalize hk : bestK l w l.length = k at *
      by_cases hk0 : k < 0
      · rw [if_pos hk0]
        repeat' (first | (with_reducible refine in_seq ?_) | (with_reducible refine in_reg ?_) | (with_reducible refine in_block ?_) | (with_reducible refine in_cond ?_) | (with_reducible refine in_ret ?_) | (with_reducible refine in_skip ?_) | (simp (disch := omega) only [go_sem, Nat.reduceEqDiff, ↓reduceIte, reduceCtorEq, Nat.reduceAdd, Nat.reduceMul, Int.reduceToNat, List.reduceReplicate, Nat.reduceLeDiff, Nat.reduceLT, Int.reduceLT, Int.reduceLE, Int.reduceEq]) | (with_reducible refine giv_intro fun _h => ?_) | (with_reducible refine alt_intro ?_ (fun _h => ?_)) | ((first | with_reducible refine br_dec (fun _h => ?_) (fun _h => ?_) | with_reducible refine br_ndec (fun _h => ?_) (fun _h => ?_)) <;> (first | (exfalso; omega) | simp only [decide_eq_false _h] | simp only [decide_eq_true _h] | skip)) | ((first | with_reducible refine br_not (fun _h => ?_) (fun _h => ?_) | with_reducible refine br_var (fun _h => ?_) (fun _h => ?_)) <;> (try simp only [_h])) | ((with_reducible apply call (k9)); (focus (simp (disch := omega) only [go_sem, Nat.reduceEqDiff, ↓reduceIte, reduceCtorEq, Nat.reduceAdd, Nat.reduceMul, Int.reduceToNat, List.reduceReplicate, Nat.reduceLeDiff, Nat.reduceLT, Int.reduceLT, Int.reduceLE, Int.reduceEq]; (try rfl); done))) | fail)
      · rw [if_neg hk0]
        have hkl : k.toNat < l.length := by omega
        have hgk := hg.2 _ (nth_mem hkl)
        have hbb := hr.2.2 (by omega)
        simp only [begB, Bool.and_eq_true, decide_eq_true_eq] at hbb
        have d2 := join_ok (nth l k.toNat).2 (w.drop (nth l k.toNat).1.length) (by simp; omega)
        have ej : (nth l k.toNat).2 ++ w.drop (nth l k.toNat).1.length = turnL w 0 (nth l k.toNat).1.length (nth l k.toNat).2 := by simp [turnL]
        rw [ej] at d2
        have d3 := short_ok (turnL w 0 (nth l k.toNat).1.length (nth l k.toNat).2)
        have e6 : List.take (w.length - (nth l k.toNat).1.length) (List.drop (nth l k.toNat).1.length w) = List.drop (nth l k.toNat).1.length w := List.take_of_length_le (by simp)
        repeat' (first | (with_reducible refine in_seq ?_) | (with_reducible refine in_reg ?_) | (with_reducible refine in_block ?_) | (with_reducible refine in_cond ?_) | (with_reducible refine in_ret ?_) | (with_reducible refine in_skip ?_) | (simp (disch := omega) only [go_sem, Nat.reduceEqDiff, ↓reduceIte, reduceCtorEq, Nat.reduceAdd, Nat.reduceMul, Int.reduceToNat, List.reduceReplicate, Nat.reduceLeDiff, Nat.reduceLT, Int.reduceLT, Int.reduceLE, Int.reduceEq, e6]) | (with_reducible refine giv_intro fun _h => ?_) | (with_reducible refine alt_intro ?_ (fun _h => ?_)) | ((first | with_reducible refine br_dec (fun _h => ?_) (fun _h => ?_) | with_reducible refine br_ndec (fun _h => ?_) (fun _h => ?_)) <;> (first | (exfalso; omega) | simp only [decide_eq_false _h] | simp only [decide_eq_true _h] | skip)) | ((first | with_reducible refine br_not (fun _h => ?_) (fun _h => ?_) | with_reducible refine br_var (fun _h => ?_) (fun _h => ?_)) <;> (try simp only [_h])) | ((with_reducible apply call_D (d2)); (focus (simp (disch := omega) only [go_sem, Nat.reduceEqDiff, ↓reduceIte, reduceCtorEq, Nat.reduceAdd, Nat.reduceMul, Int.reduceToNat, List.reduceReplicate, Nat.reduceLeDiff, Nat.reduceLT, Int.reduceLT, Int.reduceLE, Int.reduceEq, e6]; (try rfl); done))) | ((with_reducible apply call_D (d3)); (focus (simp (disch := omega) only [go_sem, Nat.reduceEqDiff, ↓reduceIte, reduceCtorEq, Nat.reduceAdd, Nat.reduceMul, Int.reduceToNat, List.reduceReplicate, Nat.reduceLeDiff, Nat.reduceLT, Int.reduceLT, Int.reduceLE, Int.reduceEq, e6]; (try rfl); done))) | fail)
  · have e : mutT l w = ([], false, mutE0 l w) := by rw [mutT, if_pos h]
    rw [e]
    have eg : mutE0 l w = if grdErr l ≠ 0 then grdErr l else wordsErr [w] := firstTwo _ _
    rw [eg] at h ⊢
    generalize wordsErr [w] = e2 at *
    generalize grdErr l = e1 at *
    by_cases h3 : e1 = 0
    · rw [if_neg (by omega)] at h ⊢
      (refine fn_look s39_ok (by simp) (by intro k; simp only [go_sem, Nat.reduceEqDiff, ↓reduceIte, reduceCtorEq, Nat.reduceAdd, Nat.reduceMul, Int.reduceToNat, List.reduceReplicate, Nat.reduceLeDiff, Nat.reduceLT, Int.reduceLT, Int.reduceLE, Int.reduceEq]) fun S hS => cwp_sound _ _ _ _ ?_; simp (disch := omega) only [s39, go_sem, Nat.reduceEqDiff, ↓reduceIte, reduceCtorEq, Nat.reduceAdd, Nat.reduceMul, Int.reduceToNat, List.reduceReplicate, Nat.reduceLeDiff, Nat.reduceLT, Int.reduceLT, Int.reduceLE, Int.reduceEq])
      repeat' (first | (with_reducible refine in_seq ?_) | (with_reducible refine in_reg ?_) | (with_reducible refine in_block ?_) | (with_reducible refine in_cond ?_) | (with_reducible refine in_ret ?_) | (with_reducible refine in_skip ?_) | (simp (disch := omega) only [go_sem, Nat.reduceEqDiff, ↓reduceIte, reduceCtorEq, Nat.reduceAdd, Nat.reduceMul, Int.reduceToNat, List.reduceReplicate, Nat.reduceLeDiff, Nat.reduceLT, Int.reduceLT, Int.reduceLE, Int.reduceEq]) | (with_reducible refine giv_intro fun _h => ?_) | (with_reducible refine alt_intro ?_ (fun _h => ?_)) | ((first | with_reducible refine br_dec (fun _h => ?_) (fun _h => ?_) | with_reducible refine br_ndec (fun _h => ?_) (fun _h => ?_)) <;> (first | (exfalso; omega) | simp only [decide_eq_false _h] | simp only [decide_eq_true _h] | skip)) | ((first | with_reducible refine br_not (fun _h => ?_) (fun _h => ?_) | with_reducible refine br_var (fun _h => ?_) (fun _h => ?_)) <;> (try simp only [_h])) | ((with_reducible apply call (c1)); (focus (simp (disch := omega) only [go_sem, Nat.reduceEqDiff, ↓reduceIte, reduceCtorEq, Nat.reduceAdd, Nat.reduceMul, Int.reduceToNat, List.reduceReplicate, Nat.reduceLeDiff, Nat.reduceLT, Int.reduceLT, Int.reduceLE, Int.reduceEq]; (try rfl); done))) | ((with_reducible apply call (c3)); (focus (simp (disch := omega) only [go_sem, Nat.reduceEqDiff, ↓reduceIte, reduceCtorEq, Nat.reduceAdd, Nat.reduceMul, Int.reduceToNat, List.reduceReplicate, Nat.reduceLeDiff, Nat.reduceLT, Int.reduceLT, Int.reduceLE, Int.reduceEq]; (try rfl); done))) | fail)
      rfl
    · rw [if_pos (by omega)] at h ⊢
      (refine fn_look s39_ok (by simp) (by intro k; simp only [go_sem, Nat.reduceEqDiff, ↓reduceIte, reduceCtorEq, Nat.reduceAdd, Nat.reduceMul, Int.reduceToNat, List.reduceReplicate, Nat.reduceLeDiff, Nat.reduceLT, Int.reduceLT, Int.reduceLE, Int.reduceEq]) fun S hS => cwp_sound _ _ _ _ ?_; simp (disch := omega) only [s39, go_sem, Nat.reduceEqDiff, ↓reduceIte, reduceCtorEq, Nat.reduceAdd, Nat.reduceMul, Int.reduceToNat, List.reduceReplicate, Nat.reduceLeDiff, Nat.reduceLT, Int.reduceLT, Int.reduceLE, Int.reduceEq])
      repeat' (first | (with_reducible refine in_seq ?_) | (with_reducible refine in_reg ?_) | (with_reducible refine in_block ?_) | (with_reducible refine in_cond ?_) | (with_reducible refine in_ret ?_) | (with_reducible refine in_skip ?_) | (simp (disch := omega) only [go_sem, Nat.reduceEqDiff, ↓reduceIte, reduceCtorEq, Nat.reduceAdd, Nat.reduceMul, Int.reduceToNat, List.reduceReplicate, Nat.reduceLeDiff, Nat.reduceLT, Int.reduceLT, Int.reduceLE, Int.reduceEq]) | (with_reducible refine giv_intro fun _h => ?_) | (with_reducible refine alt_intro ?_ (fun _h => ?_)) | ((first | with_reducible refine br_dec (fun _h => ?_) (fun _h => ?_) | with_reducible refine br_ndec (fun _h => ?_) (fun _h => ?_)) <;> (first | (exfalso; omega) | simp only [decide_eq_false _h] | simp only [decide_eq_true _h] | skip)) | ((first | with_reducible refine br_not (fun _h => ?_) (fun _h => ?_) | with_reducible refine br_var (fun _h => ?_) (fun _h => ?_)) <;> (try simp only [_h])) | ((with_reducible apply call (c1)); (focus (simp (disch := omega) only [go_sem, Nat.reduceEqDiff, ↓reduceIte, reduceCtorEq, Nat.reduceAdd, Nat.reduceMul, Int.reduceToNat, List.reduceReplicate, Nat.reduceLeDiff, Nat.reduceLT, Int.reduceLT, Int.reduceLE, Int.reduceEq]; (try rfl); done))) | fail)
      rfl
/-- ablaut/ablautlaw13.grades: 1 parameters, 0 captured -/
def s35 : SC := .seq (.reg [⟨(some 2), .mv (.c (.int .i64 0)), none⟩])
  (.seq (.reg [⟨(some 5), .mv (.t 0), none⟩,
      ⟨(some 6), .lenL (.t 5), none⟩,
      ⟨(some 3), .mv (.t 6), none⟩])
   (.seq (.seq (.reg [⟨(some 4), .mv (.c (.int .i64 0)), none⟩])
     (.block 0 (.loop (.seq (.seq (.reg [⟨(some 7), .mv (.t 4), none⟩,
            ⟨(some 8), .mv (.t 0), none⟩,
            ⟨(some 9), .lenL (.t 8), none⟩,
            ⟨(some 10), .bin .lss (.t 7) (.t 9), none⟩,
            ⟨(some 11), .mv (.t 10), none⟩,
            ⟨(some 12), .mv (.t 3), some (11, true)⟩,
            ⟨(some 13), .bin .leq (.t 12) (.c (.int .i64 32000)), some (11, true)⟩,
            ⟨(some 14), .pick (.t 11) (.t 13) (.c (.bool false)), none⟩])
         (.cond (.t 14) (.skip) (.exit 0)))
        (.seq (.block 1 (.regD [⟨(some 17), .mv (.t 3), none⟩,
             ⟨(some 18), .mv (.t 0), none⟩,
             ⟨(some 19), .mv (.t 4), none⟩,
             ⟨(some 20), .iaddr 2 (.t 18) (.t 19), none⟩,
             ⟨(some 21), .faddr 0 (.t 20), none⟩,
             ⟨(some 22), .load none (.t 21), none⟩,
             ⟨(some 23), .mv (.t 0), none⟩,
             ⟨(some 24), .mv (.t 4), none⟩,
             ⟨(some 25), .iaddr 2 (.t 23) (.t 24), none⟩,
             ⟨(some 26), .faddr 1 (.t 25), none⟩,
             ⟨(some 27), .load none (.t 26), none⟩,
             ⟨(some 28), .buildSl 22 1 2 [(.slice none 0 0)] [(0, 1, (.t 22)), (1, 1, (.t 27))], none⟩,
             ⟨(some 29), .call (.f 16) [(.t 28)], none⟩,
             ⟨(some 30), .bin .add (.t 17) (.t 29), none⟩,
             ⟨(some 3), .mv (.t 30), none⟩]))
         (.reg [⟨(some 15), .mv (.t 4), none⟩,
            ⟨(some 16), .bin .add (.t 15) (.c (.int .i64 1)), none⟩,
            ⟨(some 4), .mv (.t 16), none⟩]))))))
    (.seq (.reg [⟨(some 31), .mv (.t 3), none⟩,
        ⟨(some 2), .mv (.t 31), none⟩])
     (.ret))))
theorem s35_ok : lookF Try.prog 35 = some (s35, 32, [.tmp 2]) := by kernel_rfl
theorem lGrades_ok (l : List Grade) : FnR P 35 [sl l] fun r => ∃ n : Int, r = intA n := by
  (refine fnR_look s35_ok (by simp) (int_bel) fun S hS => cwp_sound _ _ _ _ ?_; simp (disch := omega) only [s35, go_sem, Nat.reduceEqDiff, ↓reduceIte, reduceCtorEq, Nat.reduceAdd, Nat.reduceMul, Int.reduceToNat, List.reduceReplicate, Nat.reduceLeDiff, Nat.reduceLT, Int.reduceLT, Int.reduceLE, Int.reduceEq])
  repeat' (first | (with_reducible refine in_seq ?_) | (with_reducible refine in_reg ?_) | (with_reducible refine in_block ?_) | (with_reducible refine in_cond ?_) | (with_reducible refine in_ret ?_) | (with_reducible refine in_skip ?_) | (simp (disch := omega) only [go_sem, Nat.reduceEqDiff, ↓reduceIte, reduceCtorEq, Nat.reduceAdd, Nat.reduceMul, Int.reduceToNat, List.reduceReplicate, Nat.reduceLeDiff, Nat.reduceLT, Int.reduceLT, Int.reduceLE, Int.reduceEq]) | (with_reducible refine giv_intro fun _h => ?_) | (with_reducible refine alt_intro ?_ (fun _h => ?_)) | ((first | with_reducible refine br_dec (fun _h => ?_) (fun _h => ?_) | with_reducible refine br_ndec (fun _h => ?_) (fun _h => ?_)) <;> (first | (exfalso; omega) | simp only [decide_eq_false _h] | simp only [decide_eq_true _h] | skip)) | ((first | with_reducible refine br_not (fun _h => ?_) (fun _h => ?_) | with_reducible refine br_var (fun _h => ?_) (fun _h => ?_)) <;> (try simp only [_h])) | fail)
  (refine loopC hS [0] (by simp only [go_sem, Nat.reduceEqDiff, ↓reduceIte, reduceCtorEq, Nat.reduceAdd, Nat.reduceMul, Int.reduceToNat, List.reduceReplicate, Nat.reduceLeDiff, Nat.reduceLT, Int.reduceLT, Int.reduceLE, Int.reduceEq]; try rfl) (fun (⟨i, n⟩ : Nat × Int) => [(3, intA n), (4, intA i)]) (fun (⟨i, n⟩ : Nat × Int) => []) (fun (⟨i, n⟩ : Nat × Int) => i ≤ l.length) (fun (⟨i, n⟩ : Nat × Int) => l.length - i) ((0, (l.length : Int))) ?h03 ?hn3 ?rd3; case hn3 => (intro s; first | rfl | (rcases s with ⟨_, _⟩; rfl) | (rcases s with ⟨_, _, _⟩; rfl) | (rcases s with ⟨_, _, _, _⟩; rfl) | (rcases s with ⟨_, _, _, _, _⟩; rfl)))
  · simp (disch := omega) only [go_sem, Nat.reduceEqDiff, ↓reduceIte, reduceCtorEq, Nat.reduceAdd, Nat.reduceMul, Int.reduceToNat, List.reduceReplicate, Nat.reduceLeDiff, Nat.reduceLT, Int.reduceLT, Int.reduceLE, Int.reduceEq]; simp
  rintro ⟨i, n⟩ hi
  replace hi : i ≤ l.length := hi
  repeat' (first | (with_reducible refine in_seq ?_) | (with_reducible refine in_reg ?_) | (with_reducible refine in_block ?_) | (with_reducible refine in_cond ?_) | (with_reducible refine in_ret ?_) | (with_reducible refine in_skip ?_) | (simp (disch := omega) only [go_sem, Nat.reduceEqDiff, ↓reduceIte, reduceCtorEq, Nat.reduceAdd, Nat.reduceMul, Int.reduceToNat, List.reduceReplicate, Nat.reduceLeDiff, Nat.reduceLT, Int.reduceLT, Int.reduceLE, Int.reduceEq]) | (with_reducible refine giv_intro fun _h => ?_) | (with_reducible refine alt_intro ?_ (fun _h => ?_)) | ((first | with_reducible refine br_dec (fun _h => ?_) (fun _h => ?_) | with_reducible refine br_ndec (fun _h => ?_) (fun _h => ?_)) <;> (first | (exfalso; omega) | simp only [decide_eq_false _h] | simp only [decide_eq_true _h] | skip)) | ((first | with_reducible refine br_not (fun _h => ?_) (fun _h => ?_) | with_reducible refine br_var (fun _h => ?_) (fun _h => ?_)) <;> (try simp only [_h])) | ((with_reducible apply call_D (bytesF_ok [(nth l i).1, (nth l i).2])); (focus (simp (disch := omega) only [go_sem, Nat.reduceEqDiff, ↓reduceIte, reduceCtorEq, Nat.reduceAdd, Nat.reduceMul, Int.reduceToNat, List.reduceReplicate, Nat.reduceLeDiff, Nat.reduceLT, Int.reduceLT, Int.reduceLE, Int.reduceEq]; (try rfl); done))) | fail)
  · exact ⟨(i + 1, _), ⟨by omega, by omega⟩, rfl, by omega⟩
  · exact ⟨_, rfl⟩
  · exact ⟨_, rfl⟩
/-- ablaut/ablautlaw13.HarmGrades: 3 parameters, 0 captured -/
def s9 : SC := .seq (.reg [⟨(some 4), .box 37 1 (.t 1), none⟩,
     ⟨(some 6), .mv (.c (.bool false)), none⟩])
  (.seq (.seq (.reg [⟨(some 13), .load (some 1) (.t 4), none⟩,
       ⟨(some 14), .call (.f 25) [(.t 13)], none⟩,
       ⟨(some 15), .mv (.t 14), none⟩,
       ⟨(some 16), .mv (.t 0), some (15, false)⟩,
       ⟨(some 17), .call (.f 35) [(.t 16)], some (15, false)⟩,
       ⟨(some 18), .bin .gtr (.t 17) (.c (.int .i64 32000)), some (15, false)⟩,
       ⟨(some 19), .pick (.t 15) (.c (.bool true)) (.t 18), none⟩,
       ⟨(some 20), .mv (.t 19), none⟩,
       ⟨(some 21), .mv (.t 2), some (20, false)⟩,
       ⟨(some 22), .buildSl 22 1 1 [(.slice none 0 0)] [(0, 1, (.t 21))], some (20, false)⟩,
       ⟨(some 23), .call (.f 16) [(.t 22)], some (20, false)⟩,
       ⟨(some 24), .bin .gtr (.t 23) (.c (.int .i64 32000)), some (20, false)⟩,
       ⟨(some 25), .pick (.t 20) (.c (.bool true)) (.t 24), none⟩])
    (.cond (.t 25) (.seq (.reg [⟨(some 26), .call (.f 17) [], none⟩,
         ⟨(some 6), .mv (.t 26), none⟩])
      (.ret)) (.skip)))
   (.seq (.reg [⟨(some 28), .mv (.t 0), none⟩,
       ⟨(some 29), .load (some 1) (.t 4), none⟩,
       ⟨(some 30), .mv (.t 2), none⟩,
       ⟨(some 31), .call (.f 36) [(.t 28), (.t 29), (.t 30)], none⟩,
       ⟨(some 27), .mv (.t 31), none⟩,
       ⟨(some 32), .ext (.t 27) 0, none⟩,
       ⟨(some 33), .ext (.t 27) 1, none⟩,
       ⟨(some 34), .ext (.t 27) 2, none⟩,
       ⟨(some 7), .mv (.t 32), none⟩,
       ⟨(some 8), .mv (.t 33), none⟩,
       ⟨(some 9), .mv (.t 34), none⟩])
    (.seq (.reg [⟨(some 36), .mv (.t 0), none⟩,
        ⟨(some 37), .load (some 1) (.t 4), none⟩,
        ⟨(some 38), .mv (.t 2), none⟩,
        ⟨(some 39), .call (.f 37) [(.t 36), (.t 37), (.t 38)], none⟩,
        ⟨(some 35), .mv (.t 39), none⟩,
        ⟨(some 40), .ext (.t 35) 0, none⟩,
        ⟨(some 41), .ext (.t 35) 1, none⟩,
        ⟨(some 42), .ext (.t 35) 2, none⟩,
        ⟨(some 10), .mv (.t 40), none⟩,
        ⟨(some 11), .mv (.t 41), none⟩,
        ⟨(some 12), .mv (.t 42), none⟩])
     (.seq (.seq (.reg [⟨(some 43), .mv (.t 7), none⟩,
          ⟨(some 44), .mv (.t 10), none⟩,
          ⟨(some 45), .call (.f 22) [(.t 43), (.t 44)], none⟩,
          ⟨(some 46), .un .not (.t 45), none⟩,
          ⟨(some 47), .mv (.t 46), none⟩,
          ⟨(some 48), .mv (.t 8), some (47, false)⟩,
          ⟨(some 49), .mv (.t 11), some (47, false)⟩,
          ⟨(some 50), .eq true .bool (.t 48) (.t 49), some (47, false)⟩,
          ⟨(some 51), .pick (.t 47) (.c (.bool true)) (.t 50), none⟩,
          ⟨(some 52), .mv (.t 51), none⟩,
          ⟨(some 53), .mv (.t 9), some (52, false)⟩,
          ⟨(some 54), .mv (.t 12), some (52, false)⟩,
          ⟨(some 55), .bin .neq (.t 53) (.t 54), some (52, false)⟩,
          ⟨(some 56), .pick (.t 52) (.c (.bool true)) (.t 55), none⟩])
       (.cond (.t 56) (.seq (.reg [⟨(some 6), .mv (.c (.bool false)), none⟩])
         (.ret)) (.skip)))
      (.seq (.reg [⟨(some 58), .mv (.t 0), none⟩,
          ⟨(some 59), .mv (.t 2), none⟩,
          ⟨(some 60), .call (.f 38) [(.t 58), (.t 59)], none⟩,
          ⟨(some 57), .mv (.t 60), none⟩,
          ⟨(some 61), .ext (.t 57) 0, none⟩,
          ⟨(some 62), .ext (.t 57) 1, none⟩,
          ⟨(some 63), .ext (.t 57) 2, none⟩,
          ⟨(some 7), .mv (.t 61), none⟩,
          ⟨(some 8), .mv (.t 62), none⟩,
          ⟨(some 9), .mv (.t 63), none⟩])
       (.seq (.reg [⟨(some 65), .mv (.t 0), none⟩,
           ⟨(some 66), .mv (.t 2), none⟩,
           ⟨(some 67), .call (.f 39) [(.t 65), (.t 66)], none⟩,
           ⟨(some 64), .mv (.t 67), none⟩,
           ⟨(some 68), .ext (.t 64) 0, none⟩,
           ⟨(some 69), .ext (.t 64) 1, none⟩,
           ⟨(some 70), .ext (.t 64) 2, none⟩,
           ⟨(some 10), .mv (.t 68), none⟩,
           ⟨(some 11), .mv (.t 69), none⟩,
           ⟨(some 12), .mv (.t 70), none⟩])
        (.seq (.reg [⟨(some 71), .mv (.t 7), none⟩,
            ⟨(some 72), .mv (.t 10), none⟩,
            ⟨(some 73), .call (.f 22) [(.t 71), (.t 72)], none⟩,
            ⟨(some 74), .mv (.t 73), none⟩,
            ⟨(some 75), .mv (.t 8), some (74, true)⟩,
            ⟨(some 76), .mv (.t 11), some (74, true)⟩,
            ⟨(some 77), .eq false .bool (.t 75) (.t 76), some (74, true)⟩,
            ⟨(some 78), .pick (.t 74) (.t 77) (.c (.bool false)), none⟩,
            ⟨(some 79), .mv (.t 78), none⟩,
            ⟨(some 80), .mv (.t 9), some (79, true)⟩,
            ⟨(some 81), .mv (.t 12), some (79, true)⟩,
            ⟨(some 82), .bin .eql (.t 80) (.t 81), some (79, true)⟩,
            ⟨(some 83), .pick (.t 79) (.t 82) (.c (.bool false)), none⟩,
            ⟨(some 84), .mv (.t 83), none⟩,
            ⟨(some 85), .call (.f 17) [], some (84, true)⟩,
            ⟨(some 86), .pick (.t 84) (.t 85) (.c (.bool false)), none⟩,
            ⟨(some 6), .mv (.t 86), none⟩])
         (.ret))))))))
theorem s9_ok : lookF Try.prog 9 = some (s9, 87, [.tmp 6]) := by kernel_rfl
set_option maxHeartbeats 1000000 in
theorem HarmGrades_ok (l : List Grade) (s : List Sound) (w : List Str) : Fn P 9 [sl l, sndA s, sl w] (boolA true) := by
  have k1 := hGrade_ok l s w
  have k2 := rGrade_ok l s w
  have k3 := hMutate_ok l w
  have k4 := rMutate_ok l w
  generalize gradeT l s w = t1 at *
  generalize mutT l w = t2 at *
  (refine fn_look s9_ok (by simp) (by intro k; simp only [go_sem, Nat.reduceEqDiff, ↓reduceIte, reduceCtorEq, Nat.reduceAdd, Nat.reduceMul, Int.reduceToNat, List.reduceReplicate, Nat.reduceLeDiff, Nat.reduceLT, Int.reduceLT, Int.reduceLE, Int.reduceEq]) fun S hS => cwp_sound _ _ _ _ ?_; simp (disch := omega) only [s9, go_sem, Nat.reduceEqDiff, ↓reduceIte, reduceCtorEq, Nat.reduceAdd, Nat.reduceMul, Int.reduceToNat, List.reduceReplicate, Nat.reduceLeDiff, Nat.reduceLT, Int.reduceLT, Int.reduceLE, Int.reduceEq])
  repeat' (first | (with_reducible refine in_seq ?_) | (with_reducible refine in_reg ?_) | (with_reducible refine in_block ?_) | (with_reducible refine in_cond ?_) | (with_reducible refine in_ret ?_) | (with_reducible refine in_skip ?_) | (simp (disch := omega) only [go_sem, Nat.reduceEqDiff, ↓reduceIte, reduceCtorEq, Nat.reduceAdd, Nat.reduceMul, Int.reduceToNat, List.reduceReplicate, Nat.reduceLeDiff, Nat.reduceLT, Int.reduceLT, Int.reduceLE, Int.reduceEq]) | (with_reducible refine giv_intro fun _h => ?_) | (with_reducible refine alt_intro ?_ (fun _h => ?_)) | ((first | with_reducible refine br_dec (fun _h => ?_) (fun _h => ?_) | with_reducible refine br_ndec (fun _h => ?_) (fun _h => ?_)) <;> (first | (exfalso; omega) | simp only [decide_eq_false _h] | simp only [decide_eq_true _h] | skip)) | ((first | with_reducible refine br_not (fun _h => ?_) (fun _h => ?_) | with_reducible refine br_var (fun _h => ?_) (fun _h => ?_)) <;> (try simp only [_h])) | ((with_reducible apply call (known_ok)); (focus (simp (disch := omega) only [go_sem, Nat.reduceEqDiff, ↓reduceIte, reduceCtorEq, Nat.reduceAdd, Nat.reduceMul, Int.reduceToNat, List.reduceReplicate, Nat.reduceLeDiff, Nat.reduceLT, Int.reduceLT, Int.reduceLE, Int.reduceEq]; (try rfl); done))) | ((with_reducible apply callR (over_ok s)); (focus (simp (disch := omega) only [go_sem, Nat.reduceEqDiff, ↓reduceIte, reduceCtorEq, Nat.reduceAdd, Nat.reduceMul, Int.reduceToNat, List.reduceReplicate, Nat.reduceLeDiff, Nat.reduceLT, Int.reduceLT, Int.reduceLE, Int.reduceEq]; (try rfl); done)); (rintro _ ⟨_, rfl⟩)) | ((with_reducible apply callR (lGrades_ok l)); (focus (simp (disch := omega) only [go_sem, Nat.reduceEqDiff, ↓reduceIte, reduceCtorEq, Nat.reduceAdd, Nat.reduceMul, Int.reduceToNat, List.reduceReplicate, Nat.reduceLeDiff, Nat.reduceLT, Int.reduceLT, Int.reduceLE, Int.reduceEq]; (try rfl); done)); (rintro _ ⟨_, rfl⟩)) | ((with_reducible apply callR_lend (bytes_ok [w] (by simp))); (focus (simp (disch := omega) only [go_sem, Nat.reduceEqDiff, ↓reduceIte, reduceCtorEq, Nat.reduceAdd, Nat.reduceMul, Int.reduceToNat, List.reduceReplicate, Nat.reduceLeDiff, Nat.reduceLT, Int.reduceLT, Int.reduceLE, Int.reduceEq]; (try rfl); done)); (focus (rintro _ ⟨_, rfl⟩; rfl)); (rintro _ ⟨_, rfl⟩)) | ((with_reducible apply call (k1)); (focus (simp (disch := omega) only [go_sem, Nat.reduceEqDiff, ↓reduceIte, reduceCtorEq, Nat.reduceAdd, Nat.reduceMul, Int.reduceToNat, List.reduceReplicate, Nat.reduceLeDiff, Nat.reduceLT, Int.reduceLT, Int.reduceLE, Int.reduceEq]; (try rfl); done))) | ((with_reducible apply call (k2)); (focus (simp (disch := omega) only [go_sem, Nat.reduceEqDiff, ↓reduceIte, reduceCtorEq, Nat.reduceAdd, Nat.reduceMul, Int.reduceToNat, List.reduceReplicate, Nat.reduceLeDiff, Nat.reduceLT, Int.reduceLT, Int.reduceLE, Int.reduceEq]; (try rfl); done))) | ((with_reducible apply call (k3)); (focus (simp (disch := omega) only [go_sem, Nat.reduceEqDiff, ↓reduceIte, reduceCtorEq, Nat.reduceAdd, Nat.reduceMul, Int.reduceToNat, List.reduceReplicate, Nat.reduceLeDiff, Nat.reduceLT, Int.reduceLT, Int.reduceLE, Int.reduceEq]; (try rfl); done))) | ((with_reducible apply call (k4)); (focus (simp (disch := omega) only [go_sem, Nat.reduceEqDiff, ↓reduceIte, reduceCtorEq, Nat.reduceAdd, Nat.reduceMul, Int.reduceToNat, List.reduceReplicate, Nat.reduceLeDiff, Nat.reduceLT, Int.reduceLT, Int.reduceLE, Int.reduceEq]; (try rfl); done))) | ((with_reducible apply call (Same_ok _ _)); (focus (simp (disch := omega) only [go_sem, Nat.reduceEqDiff, ↓reduceIte, reduceCtorEq, Nat.reduceAdd, Nat.reduceMul, Int.reduceToNat, List.reduceReplicate, Nat.reduceLeDiff, Nat.reduceLT, Int.reduceLT, Int.reduceLE, Int.reduceEq]; (try rfl); done))) | fail)
end Go.Proofs.Ytpfoflhhbkjngaa.Ev

/- The words of which one is the double: Undouble by both; the laws HarmInfixes, HarmDoubles, HarmUndoubles. -/
import Derived.Test.YtpfoflhhbkjngaaFnHn
set_option linter.unusedVariables false
set_option linter.unusedSimpArgs false
namespace Go.Proofs.Ytpfoflhhbkjngaa.Ev
open Go Go.Proofs

/-- The ends of w from place i - 1 downwards whose double is w, the shortest one first. -/
def undU (v : Str → Bool) (lo : Str → Int) (w : List Str) (kind : Int) : Nat → List (List Str)
  | 0 => []
  | i + 1 => if headL v lo (w.drop i) kind = w.take i then w.drop i :: undU v lo w kind i else undU v lo w kind i
theorem undU_len (v : Str → Bool) (lo : Str → Int) (w : List Str) (kind : Int) : ∀ i, (undU v lo w kind i).length ≤ i
  | 0 => by simp [undU]
  | i + 1 => by
    have := undU_len v lo w kind i
    simp only [undU]; split <;> simp <;> omega
theorem undU_mem (v : Str → Bool) (lo : Str → Int) (w : List Str) (kind : Int) : ∀ i, ∀ x ∈ undU v lo w kind i, ∃ j, j < i ∧ x = w.drop j
  | 0, x, hx => by simp [undU] at hx
  | i + 1, x, hx => by
    simp only [undU] at hx
    split at hx
    · rcases List.mem_cons.1 hx with rfl | hx
      · exact ⟨i, by omega, rfl⟩
      · obtain ⟨j, h1, h2⟩ := undU_mem v lo w kind i x hx; exact ⟨j, by omega, h2⟩
    · obtain ⟨j, h1, h2⟩ := undU_mem v lo w kind i x hx; exact ⟨j, by omega, h2⟩
def undT (s : List Sound) (w : List Str) (kind : Int) : List (List Str) × Int := if dblE0 s w ≠ 0 then ([], dblE0 s w) else if kind < 0 ∨ 3 < kind then ([], 1) else (undU (vowR s) (louR s) w kind (w.length + 1), 0)
abbrev duoW (t : List (List Str) × Int) : AV := .tup [sl t.1, intA t.2]
/-- ablaut/harm.Undouble: 3 parameters, 0 captured -/
def s42 : SC := .seq (.reg [⟨(some 3), .box 37 1 (.t 0), none⟩,
     ⟨(some 6), .mv (.c (.slice none 0 0)), none⟩,
     ⟨(some 7), .mv (.c (.int .i64 0)), none⟩])
  (.seq (.seq (.reg [⟨(some 13), .load (some 1) (.t 3), none⟩,
       ⟨(some 14), .call (.f 51) [(.t 13)], none⟩,
       ⟨(some 15), .mv (.t 1), none⟩,
       ⟨(some 16), .buildSl 22 1 1 [(.slice none 0 0)] [(0, 1, (.t 15))], none⟩,
       ⟨(some 17), .call (.f 53) [(.t 16)], none⟩,
       ⟨(some 18), .buildSl 25 1 2 [(.int .i64 0)] [(0, 1, (.t 14)), (1, 1, (.t 17))], none⟩,
       ⟨(some 19), .call (.f 62) [(.t 18)], none⟩,
       ⟨(some 8), .mv (.t 19), none⟩])
    (.seq (.reg [⟨(some 20), .mv (.t 8), none⟩,
        ⟨(some 21), .bin .neq (.t 20) (.c (.int .i64 0)), none⟩])
     (.cond (.t 21) (.seq (.reg [⟨(some 22), .mv (.t 8), none⟩,
          ⟨(some 6), .mv (.c (.slice none 0 0)), none⟩,
          ⟨(some 7), .mv (.t 22), none⟩])
       (.ret)) (.skip))))
   (.seq (.seq (.reg [⟨(some 23), .mv (.t 2), none⟩,
        ⟨(some 24), .bin .lss (.t 23) (.c (.int .i64 0)), none⟩,
        ⟨(some 25), .mv (.t 24), none⟩,
        ⟨(some 26), .mv (.t 2), some (25, false)⟩,
        ⟨(some 27), .bin .gtr (.t 26) (.c (.int .i64 3)), some (25, false)⟩,
        ⟨(some 28), .pick (.t 25) (.c (.bool true)) (.t 27), none⟩])
     (.cond (.t 28) (.seq (.reg [⟨(some 6), .mv (.c (.slice none 0 0)), none⟩,
          ⟨(some 7), .mv (.c (.int .i64 1)), none⟩])
       (.ret)) (.skip)))
    (.seq (.reg [⟨(some 29), .load (some 1) (.t 3), none⟩,
        ⟨(some 30), .call (.f 63) [(.t 29)], none⟩,
        ⟨(some 9), .mv (.t 30), none⟩])
     (.seq (.reg [⟨(some 10), .mv (.c (.slice none 0 0)), none⟩])
      (.seq (.seq (.reg [⟨(some 31), .mv (.t 1), none⟩,
           ⟨(some 32), .lenL (.t 31), none⟩,
           ⟨(some 11), .mv (.t 32), none⟩])
        (.block 0 (.loop (.seq (.seq (.reg [⟨(some 33), .mv (.t 11), none⟩,
               ⟨(some 34), .bin .geq (.t 33) (.c (.int .i64 0)), none⟩])
            (.cond (.t 34) (.skip) (.exit 0)))
           (.seq (.block 1 (.seq (.reg [⟨(some 37), .mv (.t 1), none⟩,
                 ⟨(some 38), .mv (.t 11), none⟩,
                 ⟨(some 39), .sl 1 (.t 37) (some (.t 38)) none, none⟩,
                 ⟨(some 12), .mv (.t 39), none⟩])
              (.seq (.regD [⟨(some 40), .mv (.t 9), none⟩,
                  ⟨(some 41), .mv (.t 12), none⟩,
                  ⟨(some 42), .mv (.t 2), none⟩,
                  ⟨(some 43), .call (.f 85) [(.t 40), (.t 41), (.t 42)], none⟩,
                  ⟨(some 44), .mv (.t 1), none⟩,
                  ⟨(some 45), .mv (.t 11), none⟩,
                  ⟨(some 46), .sl 1 (.t 44) none (some (.t 45)), none⟩,
                  ⟨(some 47), .call (.f 59) [(.t 43), (.t 46)], none⟩])
               (.cond (.t 47) (.reg [⟨(some 48), .mv (.t 10), none⟩,
                   ⟨(some 49), .mv (.t 12), none⟩,
                   ⟨(some 50), .call (.f 79) [(.t 49)], none⟩,
                   ⟨(some 51), .buildSl 22 1 1 [(.slice none 0 0)] [(0, 1, (.t 50))], none⟩,
                   ⟨(some 52), .app 22 1 24 (.t 48) (.t 51), none⟩,
                   ⟨(some 10), .mv (.t 52), none⟩]) (.skip)))))
            (.reg [⟨(some 35), .mv (.t 11), none⟩,
               ⟨(some 36), .bin .sub (.t 35) (.c (.int .i64 1)), none⟩,
               ⟨(some 11), .mv (.t 36), none⟩]))))))
       (.seq (.reg [⟨(some 53), .mv (.t 10), none⟩,
           ⟨(some 6), .mv (.t 53), none⟩,
           ⟨(some 7), .mv (.c (.int .i64 0)), none⟩])
        (.ret)))))))
theorem s42_ok : lookF Try.prog 42 = some (s42, 54, [.tmp 6, .tmp 7]) := by kernel_rfl
set_option maxHeartbeats 2000000 in
theorem hUndouble_ok (s : List Sound) (w : List Str) (kind : Int) : Fn P 42 [sndA s, sl w, intA kind] (duoW (undT s w kind)) := by
  have c1 := hValidate_ok s
  have c3 := words_ok [w]
  have c4 := first_ok [sndErr s, wordsErr [w]]
  by_cases h : dblE0 s w = 0
  · obtain ⟨h1, h3⟩ := two_zero h
    have hw := wordErr_len (wordsErr_one h3)
    rw [show firstE [sndErr s, wordsErr [w]] = 0 from h] at c4
    by_cases hk : kind < 0 ∨ 3 < kind
    · rw [undT, if_neg (by omega), if_pos hk]
      (refine fn_look s42_ok (by simp) (by intro k; simp only [go_sem, Nat.reduceEqDiff, ↓reduceIte, reduceCtorEq, Nat.reduceAdd, Nat.reduceMul, Int.reduceToNat, List.reduceReplicate, Nat.reduceLeDiff, Nat.reduceLT, Int.reduceLT, Int.reduceLE, Int.reduceEq]) fun S hS => cwp_sound _ _ _ _ ?_; simp (disch := omega) only [s42, go_sem, Nat.reduceEqDiff, ↓reduceIte, reduceCtorEq, Nat.reduceAdd, Nat.reduceMul, Int.reduceToNat, List.reduceReplicate, Nat.reduceLeDiff, Nat.reduceLT, Int.reduceLT, Int.reduceLE, Int.reduceEq])
      repeat' (first | (with_reducible refine in_seq ?_) | (with_reducible refine in_reg ?_) | (with_reducible refine in_block ?_) | (with_reducible refine in_cond ?_) | (with_reducible refine in_ret ?_) | (with_reducible refine in_skip ?_) | (simp (disch := omega) only [go_sem, Nat.reduceEqDiff, ↓reduceIte, reduceCtorEq, Nat.reduceAdd, Nat.reduceMul, Int.reduceToNat, List.reduceReplicate, Nat.reduceLeDiff, Nat.reduceLT, Int.reduceLT, Int.reduceLE, Int.reduceEq]) | (with_reducible refine giv_intro fun _h => ?_) | (with_reducible refine alt_intro ?_ (fun _h => ?_)) | ((first | with_reducible refine br_dec (fun _h => ?_) (fun _h => ?_) | with_reducible refine br_ndec (fun _h => ?_) (fun _h => ?_)) <;> (first | (exfalso; omega) | simp only [decide_eq_false _h] | simp only [decide_eq_true _h] | skip)) | ((first | with_reducible refine br_not (fun _h => ?_) (fun _h => ?_) | with_reducible refine br_var (fun _h => ?_) (fun _h => ?_)) <;> (try simp only [_h])) | ((with_reducible apply call (c1)); (focus (simp (disch := omega) only [go_sem, Nat.reduceEqDiff, ↓reduceIte, reduceCtorEq, Nat.reduceAdd, Nat.reduceMul, Int.reduceToNat, List.reduceReplicate, Nat.reduceLeDiff, Nat.reduceLT, Int.reduceLT, Int.reduceLE, Int.reduceEq]; (try rfl); done))) | ((with_reducible apply call_lend (c3)); (focus (simp (disch := omega) only [go_sem, Nat.reduceEqDiff, ↓reduceIte, reduceCtorEq, Nat.reduceAdd, Nat.reduceMul, Int.reduceToNat, List.reduceReplicate, Nat.reduceLeDiff, Nat.reduceLT, Int.reduceLT, Int.reduceLE, Int.reduceEq]; (try rfl); done)); (focus rfl)) | ((with_reducible apply call_lend (c4)); (focus (simp (disch := omega) only [go_sem, Nat.reduceEqDiff, ↓reduceIte, reduceCtorEq, Nat.reduceAdd, Nat.reduceMul, Int.reduceToNat, List.reduceReplicate, Nat.reduceLeDiff, Nat.reduceLT, Int.reduceLT, Int.reduceLE, Int.reduceEq]; (try rfl); done)); (focus rfl)) | fail)
      all_goals rfl
    · rw [undT, if_neg (by omega), if_neg hk]
      (refine fn_look s42_ok (by simp) (by intro k; simp only [go_sem, Nat.reduceEqDiff, ↓reduceIte, reduceCtorEq, Nat.reduceAdd, Nat.reduceMul, Int.reduceToNat, List.reduceReplicate, Nat.reduceLeDiff, Nat.reduceLT, Int.reduceLT, Int.reduceLE, Int.reduceEq]) fun S hS => cwp_sound _ _ _ _ ?_; simp (disch := omega) only [s42, go_sem, Nat.reduceEqDiff, ↓reduceIte, reduceCtorEq, Nat.reduceAdd, Nat.reduceMul, Int.reduceToNat, List.reduceReplicate, Nat.reduceLeDiff, Nat.reduceLT, Int.reduceLT, Int.reduceLE, Int.reduceEq])
      repeat' (first | (with_reducible refine in_seq ?_) | (with_reducible refine in_reg ?_) | (with_reducible refine in_block ?_) | (with_reducible refine in_cond ?_) | (with_reducible refine in_ret ?_) | (with_reducible refine in_skip ?_) | (simp (disch := omega) only [go_sem, Nat.reduceEqDiff, ↓reduceIte, reduceCtorEq, Nat.reduceAdd, Nat.reduceMul, Int.reduceToNat, List.reduceReplicate, Nat.reduceLeDiff, Nat.reduceLT, Int.reduceLT, Int.reduceLE, Int.reduceEq]) | (with_reducible refine giv_intro fun _h => ?_) | (with_reducible refine alt_intro ?_ (fun _h => ?_)) | ((first | with_reducible refine br_dec (fun _h => ?_) (fun _h => ?_) | with_reducible refine br_ndec (fun _h => ?_) (fun _h => ?_)) <;> (first | (exfalso; omega) | simp only [decide_eq_false _h] | simp only [decide_eq_true _h] | skip)) | ((first | with_reducible refine br_not (fun _h => ?_) (fun _h => ?_) | with_reducible refine br_var (fun _h => ?_) (fun _h => ?_)) <;> (try simp only [_h])) | ((with_reducible apply call (c1)); (focus (simp (disch := omega) only [go_sem, Nat.reduceEqDiff, ↓reduceIte, reduceCtorEq, Nat.reduceAdd, Nat.reduceMul, Int.reduceToNat, List.reduceReplicate, Nat.reduceLeDiff, Nat.reduceLT, Int.reduceLT, Int.reduceLE, Int.reduceEq]; (try rfl); done))) | ((with_reducible apply call_lend (c3)); (focus (simp (disch := omega) only [go_sem, Nat.reduceEqDiff, ↓reduceIte, reduceCtorEq, Nat.reduceAdd, Nat.reduceMul, Int.reduceToNat, List.reduceReplicate, Nat.reduceLeDiff, Nat.reduceLT, Int.reduceLT, Int.reduceLE, Int.reduceEq]; (try rfl); done)); (focus rfl)) | ((with_reducible apply call_lend (c4)); (focus (simp (disch := omega) only [go_sem, Nat.reduceEqDiff, ↓reduceIte, reduceCtorEq, Nat.reduceAdd, Nat.reduceMul, Int.reduceToNat, List.reduceReplicate, Nat.reduceLeDiff, Nat.reduceLT, Int.reduceLT, Int.reduceLE, Int.reduceEq]; (try rfl); done)); (focus rfl)) | ((with_reducible apply call (of_ok s)); (focus (simp (disch := omega) only [go_sem, Nat.reduceEqDiff, ↓reduceIte, reduceCtorEq, Nat.reduceAdd, Nat.reduceMul, Int.reduceToNat, List.reduceReplicate, Nat.reduceLeDiff, Nat.reduceLT, Int.reduceLT, Int.reduceLE, Int.reduceEq]; (try rfl); done))) | fail)
      refine nil_row 10 22 1 (by simp (disch := omega) only [go_sem, Nat.reduceEqDiff, ↓reduceIte, reduceCtorEq, Nat.reduceAdd, Nat.reduceMul, Int.reduceToNat, List.reduceReplicate, Nat.reduceLeDiff, Nat.reduceLT, Int.reduceLT, Int.reduceLE, Int.reduceEq]) ?_
      (refine loopC hS [1, 2, 9] (by simp only [go_sem, Nat.reduceEqDiff, ↓reduceIte, reduceCtorEq, Nat.reduceAdd, Nat.reduceMul, Int.reduceToNat, List.reduceReplicate, Nat.reduceLeDiff, Nat.reduceLT, Int.reduceLT, Int.reduceLE, Int.reduceEq]; try rfl) (fun (⟨t, out⟩ : Nat × List (List Str)) => [(10, own S 3 out), (11, intA ((t : Int) - 1))]) (fun (⟨t, out⟩ : Nat × List (List Str)) => [none, none, none, rowO 22 out]) (fun (⟨t, out⟩ : Nat × List (List Str)) => t ≤ w.length + 1 ∧ out.length + t ≤ w.length + 1 ∧ undU (vowR s) (louR s) w kind (w.length + 1) = out ++ undU (vowR s) (louR s) w kind t) (fun (⟨t, out⟩ : Nat × List (List Str)) => t) ((w.length + 1, [])) ?h01 ?hn1 ?rd1; case hn1 => (intro s; first | rfl | (rcases s with ⟨_, _⟩; rfl) | (rcases s with ⟨_, _, _⟩; rfl) | (rcases s with ⟨_, _, _, _⟩; rfl) | (rcases s with ⟨_, _, _, _, _⟩; rfl)))
      · simp (disch := omega) only [go_sem, Nat.reduceEqDiff, ↓reduceIte, reduceCtorEq, Nat.reduceAdd, Nat.reduceMul, Int.reduceToNat, List.reduceReplicate, Nat.reduceLeDiff, Nat.reduceLT, Int.reduceLT, Int.reduceLE, Int.reduceEq]; simp
      rintro ⟨t, out⟩ ⟨ht, hol, hI⟩
      replace ht : t ≤ w.length + 1 := ht
      replace hol : out.length + t ≤ w.length + 1 := hol
      replace hI : undU (vowR s) (louR s) w kind (w.length + 1) = out ++ undU (vowR s) (louR s) w kind t := hI
      cases t with
      | zero =>
        repeat' (first | (with_reducible refine in_seq ?_) | (with_reducible refine in_reg ?_) | (with_reducible refine in_block ?_) | (with_reducible refine in_cond ?_) | (with_reducible refine in_ret ?_) | (with_reducible refine in_skip ?_) | (simp (disch := omega) only [go_sem, Nat.reduceEqDiff, ↓reduceIte, reduceCtorEq, Nat.reduceAdd, Nat.reduceMul, Int.reduceToNat, List.reduceReplicate, Nat.reduceLeDiff, Nat.reduceLT, Int.reduceLT, Int.reduceLE, Int.reduceEq]) | (with_reducible refine giv_intro fun _h => ?_) | (with_reducible refine alt_intro ?_ (fun _h => ?_)) | ((first | with_reducible refine br_dec (fun _h => ?_) (fun _h => ?_) | with_reducible refine br_ndec (fun _h => ?_) (fun _h => ?_)) <;> (first | (exfalso; omega) | simp only [decide_eq_false _h] | simp only [decide_eq_true _h] | skip)) | ((first | with_reducible refine br_not (fun _h => ?_) (fun _h => ?_) | with_reducible refine br_var (fun _h => ?_) (fun _h => ?_)) <;> (try simp only [_h])) | fail)
        rw [hI]; simp [undU]
      | succ i =>
        have hst : undU (vowR s) (louR s) w kind (i + 1) = if headL (vowR s) (louR s) (w.drop i) kind = w.take i then w.drop i :: undU (vowR s) (louR s) w kind i else undU (vowR s) (louR s) w kind i := rfl
        have e1 : (((i + 1 : Nat) : Int) - 1) = (i : Int) := by omega
        have e6 : List.take (w.length - i) (List.drop i w) = List.drop i w := List.take_of_length_le (by simp)
        have e7 : List.take (i - 0) w = List.take i w := rfl
        have c5 := head_ok (ofM s) (w.drop i) kind (by omega) (by simp; omega)
        rw [vowM_of h1, louM_of h1] at c5
        have d2 := Equal_ok (headL (vowR s) (louR s) (w.drop i) kind) (w.take i)
        have k9 := cloneS_ok (w.drop i) (by simp; omega)
        repeat' (first | (with_reducible refine in_seq ?_) | (with_reducible refine in_reg ?_) | (with_reducible refine in_block ?_) | (with_reducible refine in_cond ?_) | (with_reducible refine in_ret ?_) | (with_reducible refine in_skip ?_) | (simp (disch := omega) only [go_sem, Nat.reduceEqDiff, ↓reduceIte, reduceCtorEq, Nat.reduceAdd, Nat.reduceMul, Int.reduceToNat, List.reduceReplicate, Nat.reduceLeDiff, Nat.reduceLT, Int.reduceLT, Int.reduceLE, Int.reduceEq, e1, e6, e7]) | (with_reducible refine giv_intro fun _h => ?_) | (with_reducible refine alt_intro ?_ (fun _h => ?_)) | ((first | with_reducible refine br_dec (fun _h => ?_) (fun _h => ?_) | with_reducible refine br_ndec (fun _h => ?_) (fun _h => ?_)) <;> (first | (exfalso; omega) | simp only [decide_eq_false _h] | simp only [decide_eq_true _h] | skip)) | ((first | with_reducible refine br_not (fun _h => ?_) (fun _h => ?_) | with_reducible refine br_var (fun _h => ?_) (fun _h => ?_)) <;> (try simp only [_h])) | ((with_reducible apply call_D (c5)); (focus (simp (disch := omega) only [go_sem, Nat.reduceEqDiff, ↓reduceIte, reduceCtorEq, Nat.reduceAdd, Nat.reduceMul, Int.reduceToNat, List.reduceReplicate, Nat.reduceLeDiff, Nat.reduceLT, Int.reduceLT, Int.reduceLE, Int.reduceEq, e1, e6, e7]; (try rfl); done))) | ((with_reducible apply call_D (d2)); (focus (simp (disch := omega) only [go_sem, Nat.reduceEqDiff, ↓reduceIte, reduceCtorEq, Nat.reduceAdd, Nat.reduceMul, Int.reduceToNat, List.reduceReplicate, Nat.reduceLeDiff, Nat.reduceLT, Int.reduceLT, Int.reduceLE, Int.reduceEq, e1, e6, e7]; (try rfl); done))) | ((with_reducible apply call (k9)); (focus (simp (disch := omega) only [go_sem, Nat.reduceEqDiff, ↓reduceIte, reduceCtorEq, Nat.reduceAdd, Nat.reduceMul, Int.reduceToNat, List.reduceReplicate, Nat.reduceLeDiff, Nat.reduceLT, Int.reduceLT, Int.reduceLE, Int.reduceEq, e1, e6, e7]; (try rfl); done))) | fail)
        · rw [hst, if_pos _h] at hI
          refine ⟨(i, out ++ [w.drop i]), ?_⟩
          dsimp only
          exact ⟨⟨by omega, by omega, by simp; omega, by rw [hI]; simp⟩, ⟨⟨by simp, by simp⟩, rfl⟩, rfl⟩
        · rw [hst, if_neg _h] at hI
          refine ⟨(i, out), ?_⟩
          dsimp only
          exact ⟨⟨by omega, by omega, by omega, hI⟩, ⟨⟨rfl, rfl⟩, rfl⟩, rfl⟩
  · rw [undT, if_pos h]
    rw [show firstE [sndErr s, wordsErr [w]] = dblE0 s w from rfl] at c4
    (refine fn_look s42_ok (by simp) (by intro k; simp only [go_sem, Nat.reduceEqDiff, ↓reduceIte, reduceCtorEq, Nat.reduceAdd, Nat.reduceMul, Int.reduceToNat, List.reduceReplicate, Nat.reduceLeDiff, Nat.reduceLT, Int.reduceLT, Int.reduceLE, Int.reduceEq]) fun S hS => cwp_sound _ _ _ _ ?_; simp (disch := omega) only [s42, go_sem, Nat.reduceEqDiff, ↓reduceIte, reduceCtorEq, Nat.reduceAdd, Nat.reduceMul, Int.reduceToNat, List.reduceReplicate, Nat.reduceLeDiff, Nat.reduceLT, Int.reduceLT, Int.reduceLE, Int.reduceEq])
    repeat' (first | (with_reducible refine in_seq ?_) | (with_reducible refine in_reg ?_) | (with_reducible refine in_block ?_) | (with_reducible refine in_cond ?_) | (with_reducible refine in_ret ?_) | (with_reducible refine in_skip ?_) | (simp (disch := omega) only [go_sem, Nat.reduceEqDiff, ↓reduceIte, reduceCtorEq, Nat.reduceAdd, Nat.reduceMul, Int.reduceToNat, List.reduceReplicate, Nat.reduceLeDiff, Nat.reduceLT, Int.reduceLT, Int.reduceLE, Int.reduceEq]) | (with_reducible refine giv_intro fun _h => ?_) | (with_reducible refine alt_intro ?_ (fun _h => ?_)) | ((first | with_reducible refine br_dec (fun _h => ?_) (fun _h => ?_) | with_reducible refine br_ndec (fun _h => ?_) (fun _h => ?_)) <;> (first | (exfalso; omega) | simp only [decide_eq_false _h] | simp only [decide_eq_true _h] | skip)) | ((first | with_reducible refine br_not (fun _h => ?_) (fun _h => ?_) | with_reducible refine br_var (fun _h => ?_) (fun _h => ?_)) <;> (try simp only [_h])) | ((with_reducible apply call (c1)); (focus (simp (disch := omega) only [go_sem, Nat.reduceEqDiff, ↓reduceIte, reduceCtorEq, Nat.reduceAdd, Nat.reduceMul, Int.reduceToNat, List.reduceReplicate, Nat.reduceLeDiff, Nat.reduceLT, Int.reduceLT, Int.reduceLE, Int.reduceEq]; (try rfl); done))) | ((with_reducible apply call_lend (c3)); (focus (simp (disch := omega) only [go_sem, Nat.reduceEqDiff, ↓reduceIte, reduceCtorEq, Nat.reduceAdd, Nat.reduceMul, Int.reduceToNat, List.reduceReplicate, Nat.reduceLeDiff, Nat.reduceLT, Int.reduceLT, Int.reduceLE, Int.reduceEq]; (try rfl); done)); (focus rfl)) | ((with_reducible apply call_lend (c4)); (focus (simp (disch := omega) only [go_sem, Nat.reduceEqDiff, ↓reduceIte, reduceCtorEq, Nat.reduceAdd, Nat.reduceMul, Int.reduceToNat, List.reduceReplicate, Nat.reduceLeDiff, Nat.reduceLT, Int.reduceLT, Int.reduceLE, Int.reduceEq]; (try rfl); done)); (focus rfl)) | fail)
    rfl
/-- ablaut/ablautref01.Into: 2 parameters, 0 captured -/
def s87 : SC := .seq (.reg [⟨(some 4), .mv (.c (.slice none 0 0)), none⟩])
  (.seq (.reg [⟨(some 9), .mv (.t 0), none⟩,
      ⟨(some 10), .lenL (.t 9), none⟩,
      ⟨(some 5), .mv (.c (.int .i64 0)), none⟩,
      ⟨(some 6), .mv (.t 10), none⟩])
   (.seq (.block 0 (.loop (.seq (.seq (.reg [⟨(some 11), .mv (.t 5), none⟩,
           ⟨(some 12), .mv (.t 6), none⟩,
           ⟨(some 13), .bin .lss (.t 11) (.t 12), none⟩])
        (.cond (.t 13) (.skip) (.exit 0)))
       (.block 1 (.seq (.reg [⟨(some 14), .mv (.t 5), none⟩,
            ⟨(some 15), .mv (.t 6), none⟩,
            ⟨(some 16), .bin .add (.t 14) (.t 15), none⟩,
            ⟨(some 17), .bin .quo (.t 16) (.c (.int .i64 2)), none⟩,
            ⟨(some 7), .mv (.t 17), none⟩])
         (.seq (.reg [⟨(some 18), .mv (.t 0), none⟩,
             ⟨(some 19), .mv (.t 7), none⟩,
             ⟨(some 20), .iaddr 1 (.t 18) (.t 19), none⟩,
             ⟨(some 21), .load none (.t 20), none⟩,
             ⟨(some 22), .mv (.t 1), none⟩,
             ⟨(some 23), .call (.f 24) [(.t 21), (.t 22)], none⟩])
          (.block 2 (.seq (.reg [⟨(some 26), .bin .eql (.t 23) (.c (.int .i64 0)), none⟩,
               ⟨(some 25), .mv (.t 26), none⟩])
            (.cond (.t 25) (.seq (.reg [⟨(some 27), .mv (.t 0), none⟩,
                 ⟨(some 4), .mv (.t 27), none⟩])
              (.ret)) (.seq (.reg [⟨(some 29), .bin .eql (.t 23) (.c (.int .i64 (-1))), none⟩,
                 ⟨(some 28), .mv (.t 29), none⟩])
              (.cond (.t 28) (.reg [⟨(some 30), .mv (.t 7), none⟩,
                  ⟨(some 31), .bin .add (.t 30) (.c (.int .i64 1)), none⟩,
                  ⟨(some 5), .mv (.t 31), none⟩]) (.reg [⟨(some 24), .mv (.t 7), none⟩,
                  ⟨(some 6), .mv (.t 24), none⟩]))))))))))))
    (.seq (.reg [⟨(some 32), .buildSl 22 1 0 [(.slice none 0 0)] [], none⟩,
        ⟨(some 33), .mv (.t 0), none⟩,
        ⟨(some 34), .mv (.t 5), none⟩,
        ⟨(some 35), .sl 1 (.t 33) none (some (.t 34)), none⟩,
        ⟨(some 36), .app 22 1 24 (.t 32) (.t 35), none⟩,
        ⟨(some 8), .mv (.t 36), none⟩])
     (.seq (.reg [⟨(some 37), .mv (.t 8), none⟩,
         ⟨(some 38), .mv (.t 1), none⟩,
         ⟨(some 39), .buildSl 22 1 1 [(.slice none 0 0)] [(0, 1, (.t 38))], none⟩,
         ⟨(some 40), .app 22 1 24 (.t 37) (.t 39), none⟩,
         ⟨(some 8), .mv (.t 40), none⟩])
      (.seq (.reg [⟨(some 41), .mv (.t 8), none⟩,
          ⟨(some 42), .mv (.t 0), none⟩,
          ⟨(some 43), .mv (.t 5), none⟩,
          ⟨(some 44), .sl 1 (.t 42) (some (.t 43)) none, none⟩,
          ⟨(some 45), .app 22 1 24 (.t 41) (.t 44), none⟩,
          ⟨(some 4), .mv (.t 45), none⟩])
       (.ret))))))
theorem s87_ok : lookF Try.prog 87 = some (s87, 46, [.tmp 4]) := by kernel_rfl
set_option maxHeartbeats 1000000 in
theorem into_front (l : List (List Str)) (x : List Str) (h : ∀ y ∈ l, x.length < y.length) (hl : l.length ≤ 1000000) : Fn P 87 [sl l, sl x] (sl (x :: l)) := by
  (refine fn_look s87_ok (by simp) (by intro k; simp only [go_sem, Nat.reduceEqDiff, ↓reduceIte, reduceCtorEq, Nat.reduceAdd, Nat.reduceMul, Int.reduceToNat, List.reduceReplicate, Nat.reduceLeDiff, Nat.reduceLT, Int.reduceLT, Int.reduceLE, Int.reduceEq]) fun S hS => cwp_sound _ _ _ _ ?_; simp (disch := omega) only [s87, go_sem, Nat.reduceEqDiff, ↓reduceIte, reduceCtorEq, Nat.reduceAdd, Nat.reduceMul, Int.reduceToNat, List.reduceReplicate, Nat.reduceLeDiff, Nat.reduceLT, Int.reduceLT, Int.reduceLE, Int.reduceEq])
  repeat' (first | (with_reducible refine in_seq ?_) | (with_reducible refine in_reg ?_) | (with_reducible refine in_block ?_) | (with_reducible refine in_cond ?_) | (with_reducible refine in_ret ?_) | (with_reducible refine in_skip ?_) | (simp (disch := omega) only [go_sem, Nat.reduceEqDiff, ↓reduceIte, reduceCtorEq, Nat.reduceAdd, Nat.reduceMul, Int.reduceToNat, List.reduceReplicate, Nat.reduceLeDiff, Nat.reduceLT, Int.reduceLT, Int.reduceLE, Int.reduceEq]) | (with_reducible refine giv_intro fun _h => ?_) | (with_reducible refine alt_intro ?_ (fun _h => ?_)) | ((first | with_reducible refine br_dec (fun _h => ?_) (fun _h => ?_) | with_reducible refine br_ndec (fun _h => ?_) (fun _h => ?_)) <;> (first | (exfalso; omega) | simp only [decide_eq_false _h] | simp only [decide_eq_true _h] | skip)) | ((first | with_reducible refine br_not (fun _h => ?_) (fun _h => ?_) | with_reducible refine br_var (fun _h => ?_) (fun _h => ?_)) <;> (try simp only [_h])) | fail)
  (refine loopC hS [0, 1] (by simp only [go_sem, Nat.reduceEqDiff, ↓reduceIte, reduceCtorEq, Nat.reduceAdd, Nat.reduceMul, Int.reduceToNat, List.reduceReplicate, Nat.reduceLeDiff, Nat.reduceLT, Int.reduceLT, Int.reduceLE, Int.reduceEq]; try rfl) (fun (t : Nat) => [(5, intA 0), (6, intA t)]) (fun (t : Nat) => []) (fun (t : Nat) => t ≤ l.length) (fun (t : Nat) => t) (l.length) ?h02 ?hn2 ?rd2; case hn2 => (intro s; first | rfl | (rcases s with ⟨_, _⟩; rfl) | (rcases s with ⟨_, _, _⟩; rfl) | (rcases s with ⟨_, _, _, _⟩; rfl) | (rcases s with ⟨_, _, _, _, _⟩; rfl)))
  · simp (disch := omega) only [go_sem, Nat.reduceEqDiff, ↓reduceIte, reduceCtorEq, Nat.reduceAdd, Nat.reduceMul, Int.reduceToNat, List.reduceReplicate, Nat.reduceLeDiff, Nat.reduceLT, Int.reduceLT, Int.reduceLE, Int.reduceEq]
  rintro t ht
  replace ht : t ≤ l.length := ht
  by_cases h0 : 0 < t
  · have hm : t / 2 < l.length := by omega
    have hc : compL (nth l (t / 2)) x = 1 := by
      have := h _ (nth_mem hm)
      rw [compL, if_neg (by omega), if_pos (by omega)]
    have d1 := Compare_ok (nth l (t / 2)) x
    rw [hc] at d1
    have e1 : Int.tdiv (0 + (t : Int)) 2 = ((t / 2 : Nat) : Int) := by rw [Int.zero_add]; rfl
    repeat' (first | (with_reducible refine in_seq ?_) | (with_reducible refine in_reg ?_) | (with_reducible refine in_block ?_) | (with_reducible refine in_cond ?_) | (with_reducible refine in_ret ?_) | (with_reducible refine in_skip ?_) | (simp (disch := omega) only [go_sem, Nat.reduceEqDiff, ↓reduceIte, reduceCtorEq, Nat.reduceAdd, Nat.reduceMul, Int.reduceToNat, List.reduceReplicate, Nat.reduceLeDiff, Nat.reduceLT, Int.reduceLT, Int.reduceLE, Int.reduceEq, e1]) | (with_reducible refine giv_intro fun _h => ?_) | (with_reducible refine alt_intro ?_ (fun _h => ?_)) | ((first | with_reducible refine br_dec (fun _h => ?_) (fun _h => ?_) | with_reducible refine br_ndec (fun _h => ?_) (fun _h => ?_)) <;> (first | (exfalso; omega) | simp only [decide_eq_false _h] | simp only [decide_eq_true _h] | skip)) | ((first | with_reducible refine br_not (fun _h => ?_) (fun _h => ?_) | with_reducible refine br_var (fun _h => ?_) (fun _h => ?_)) <;> (try simp only [_h])) | ((with_reducible apply call (d1)); (focus (simp (disch := omega) only [go_sem, Nat.reduceEqDiff, ↓reduceIte, reduceCtorEq, Nat.reduceAdd, Nat.reduceMul, Int.reduceToNat, List.reduceReplicate, Nat.reduceLeDiff, Nat.reduceLT, Int.reduceLT, Int.reduceLE, Int.reduceEq, e1]; (try rfl); done))) | fail)
    exact ⟨t / 2, ⟨by omega, by omega⟩, rfl⟩
  · have h00 : t = 0 := by omega
    subst h00
    have e6 : List.take (l.length - 0) l = l := by simp
    have e7 : List.take (0 - 0) l = [] := rfl
    have e8 : 1 + l.length = l.length + 1 := by omega
    repeat' (first | (with_reducible refine in_seq ?_) | (with_reducible refine in_reg ?_) | (with_reducible refine in_block ?_) | (with_reducible refine in_cond ?_) | (with_reducible refine in_ret ?_) | (with_reducible refine in_skip ?_) | (simp (disch := omega) only [go_sem, Nat.reduceEqDiff, ↓reduceIte, reduceCtorEq, Nat.reduceAdd, Nat.reduceMul, Int.reduceToNat, List.reduceReplicate, Nat.reduceLeDiff, Nat.reduceLT, Int.reduceLT, Int.reduceLE, Int.reduceEq, e6, e7, List.length_nil, e8]) | (with_reducible refine giv_intro fun _h => ?_) | (with_reducible refine alt_intro ?_ (fun _h => ?_)) | ((first | with_reducible refine br_dec (fun _h => ?_) (fun _h => ?_) | with_reducible refine br_ndec (fun _h => ?_) (fun _h => ?_)) <;> (first | (exfalso; omega) | simp only [decide_eq_false _h] | simp only [decide_eq_true _h] | skip)) | ((first | with_reducible refine br_not (fun _h => ?_) (fun _h => ?_) | with_reducible refine br_var (fun _h => ?_) (fun _h => ?_)) <;> (try simp only [_h])) | fail)
    rw [List.take_length]; rfl
/-- ablaut/ablautref13.Undouble: 3 parameters, 0 captured -/
def s43 : SC := .seq (.reg [⟨(some 3), .box 37 1 (.t 0), none⟩,
     ⟨(some 6), .mv (.c (.slice none 0 0)), none⟩,
     ⟨(some 7), .mv (.c (.int .i64 0)), none⟩])
  (.seq (.seq (.reg [⟨(some 12), .load (some 1) (.t 3), none⟩,
       ⟨(some 13), .mv (.t 1), none⟩,
       ⟨(some 14), .buildSl 22 1 1 [(.slice none 0 0)] [(0, 1, (.t 13))], none⟩,
       ⟨(some 15), .call (.f 65) [(.t 12), (.t 14)], none⟩,
       ⟨(some 8), .mv (.t 15), none⟩])
    (.seq (.reg [⟨(some 16), .mv (.t 8), none⟩,
        ⟨(some 17), .bin .neq (.t 16) (.c (.int .i64 0)), none⟩])
     (.cond (.t 17) (.seq (.reg [⟨(some 18), .mv (.t 8), none⟩,
          ⟨(some 6), .mv (.c (.slice none 0 0)), none⟩,
          ⟨(some 7), .mv (.t 18), none⟩])
       (.ret)) (.skip))))
   (.seq (.seq (.reg [⟨(some 19), .mv (.t 2), none⟩,
        ⟨(some 20), .bin .lss (.t 19) (.c (.int .i64 0)), none⟩,
        ⟨(some 21), .mv (.t 20), none⟩,
        ⟨(some 22), .mv (.t 2), some (21, false)⟩,
        ⟨(some 23), .bin .gtr (.t 22) (.c (.int .i64 3)), some (21, false)⟩,
        ⟨(some 24), .pick (.t 21) (.c (.bool true)) (.t 23), none⟩])
     (.cond (.t 24) (.seq (.reg [⟨(some 6), .mv (.c (.slice none 0 0)), none⟩,
          ⟨(some 7), .mv (.c (.int .i64 1)), none⟩])
       (.ret)) (.skip)))
    (.seq (.reg [⟨(some 9), .mv (.c (.slice none 0 0)), none⟩])
     (.seq (.seq (.reg [⟨(some 10), .mv (.c (.int .i64 0)), none⟩])
       (.block 0 (.loop (.seq (.seq (.reg [⟨(some 25), .mv (.t 10), none⟩,
              ⟨(some 26), .mv (.t 1), none⟩,
              ⟨(some 27), .lenL (.t 26), none⟩,
              ⟨(some 28), .bin .leq (.t 25) (.t 27), none⟩])
           (.cond (.t 28) (.skip) (.exit 0)))
          (.seq (.block 1 (.seq (.reg [⟨(some 31), .mv (.t 1), none⟩,
                ⟨(some 32), .mv (.t 10), none⟩,
                ⟨(some 33), .sl 1 (.t 31) (some (.t 32)) none, none⟩,
                ⟨(some 11), .mv (.t 33), none⟩])
             (.seq (.reg [⟨(some 34), .load (some 1) (.t 3), none⟩,
                 ⟨(some 35), .mv (.t 11), none⟩,
                 ⟨(some 36), .mv (.t 2), none⟩,
                 ⟨(some 37), .call (.f 86) [(.t 34), (.t 35), (.t 36)], none⟩,
                 ⟨(some 38), .mv (.t 11), none⟩,
                 ⟨(some 39), .call (.f 28) [(.t 37), (.t 38)], none⟩,
                 ⟨(some 40), .mv (.t 1), none⟩,
                 ⟨(some 41), .call (.f 22) [(.t 39), (.t 40)], none⟩])
              (.cond (.t 41) (.reg [⟨(some 42), .mv (.t 9), none⟩,
                  ⟨(some 43), .mv (.t 11), none⟩,
                  ⟨(some 44), .call (.f 28) [(.t 43), (.c (.slice none 0 0))], none⟩,
                  ⟨(some 45), .call (.f 87) [(.t 42), (.t 44)], none⟩,
                  ⟨(some 9), .mv (.t 45), none⟩]) (.skip)))))
           (.reg [⟨(some 29), .mv (.t 10), none⟩,
              ⟨(some 30), .bin .add (.t 29) (.c (.int .i64 1)), none⟩,
              ⟨(some 10), .mv (.t 30), none⟩]))))))
      (.seq (.reg [⟨(some 46), .mv (.t 9), none⟩,
          ⟨(some 6), .mv (.t 46), none⟩,
          ⟨(some 7), .mv (.c (.int .i64 0)), none⟩])
       (.ret))))))
theorem s43_ok : lookF Try.prog 43 = some (s43, 47, [.tmp 6, .tmp 7]) := by kernel_rfl
set_option maxHeartbeats 2000000 in
theorem rUndouble_ok (s : List Sound) (w : List Str) (kind : Int) : Fn P 43 [sndA s, sl w, intA kind] (duoW (undT s w kind)) := by
  have c1 := rAsked_ok s [w]
  by_cases h : dblE0 s w = 0
  · obtain ⟨h1, h3⟩ := two_zero h
    have hw := wordErr_len (wordsErr_one h3)
    rw [show firstE [sndErr s, wordsErr [w]] = 0 from h] at c1
    by_cases hk : kind < 0 ∨ 3 < kind
    · rw [undT, if_neg (by omega), if_pos hk]
      (refine fn_look s43_ok (by simp) (by intro k; simp only [go_sem, Nat.reduceEqDiff, ↓reduceIte, reduceCtorEq, Nat.reduceAdd, Nat.reduceMul, Int.reduceToNat, List.reduceReplicate, Nat.reduceLeDiff, Nat.reduceLT, Int.reduceLT, Int.reduceLE, Int.reduceEq]) fun S hS => cwp_sound _ _ _ _ ?_; simp (disch := omega) only [s43, go_sem, Nat.reduceEqDiff, ↓reduceIte, reduceCtorEq, Nat.reduceAdd, Nat.reduceMul, Int.reduceToNat, List.reduceReplicate, Nat.reduceLeDiff, Nat.reduceLT, Int.reduceLT, Int.reduceLE, Int.reduceEq])
      repeat' (first | (with_reducible refine in_seq ?_) | (with_reducible refine in_reg ?_) | (with_reducible refine in_block ?_) | (with_reducible refine in_cond ?_) | (with_reducible refine in_ret ?_) | (with_reducible refine in_skip ?_) | (simp (disch := omega) only [go_sem, Nat.reduceEqDiff, ↓reduceIte, reduceCtorEq, Nat.reduceAdd, Nat.reduceMul, Int.reduceToNat, List.reduceReplicate, Nat.reduceLeDiff, Nat.reduceLT, Int.reduceLT, Int.reduceLE, Int.reduceEq]) | (with_reducible refine giv_intro fun _h => ?_) | (with_reducible refine alt_intro ?_ (fun _h => ?_)) | ((first | with_reducible refine br_dec (fun _h => ?_) (fun _h => ?_) | with_reducible refine br_ndec (fun _h => ?_) (fun _h => ?_)) <;> (first | (exfalso; omega) | simp only [decide_eq_false _h] | simp only [decide_eq_true _h] | skip)) | ((first | with_reducible refine br_not (fun _h => ?_) (fun _h => ?_) | with_reducible refine br_var (fun _h => ?_) (fun _h => ?_)) <;> (try simp only [_h])) | ((with_reducible apply call_lend (c1)); (focus (simp (disch := omega) only [go_sem, Nat.reduceEqDiff, ↓reduceIte, reduceCtorEq, Nat.reduceAdd, Nat.reduceMul, Int.reduceToNat, List.reduceReplicate, Nat.reduceLeDiff, Nat.reduceLT, Int.reduceLT, Int.reduceLE, Int.reduceEq]; (try rfl); done)); (focus rfl)) | fail)
      all_goals rfl
    · rw [undT, if_neg (by omega), if_neg hk]
      (refine fn_look s43_ok (by simp) (by intro k; simp only [go_sem, Nat.reduceEqDiff, ↓reduceIte, reduceCtorEq, Nat.reduceAdd, Nat.reduceMul, Int.reduceToNat, List.reduceReplicate, Nat.reduceLeDiff, Nat.reduceLT, Int.reduceLT, Int.reduceLE, Int.reduceEq]) fun S hS => cwp_sound _ _ _ _ ?_; simp (disch := omega) only [s43, go_sem, Nat.reduceEqDiff, ↓reduceIte, reduceCtorEq, Nat.reduceAdd, Nat.reduceMul, Int.reduceToNat, List.reduceReplicate, Nat.reduceLeDiff, Nat.reduceLT, Int.reduceLT, Int.reduceLE, Int.reduceEq])
      repeat' (first | (with_reducible refine in_seq ?_) | (with_reducible refine in_reg ?_) | (with_reducible refine in_block ?_) | (with_reducible refine in_cond ?_) | (with_reducible refine in_ret ?_) | (with_reducible refine in_skip ?_) | (simp (disch := omega) only [go_sem, Nat.reduceEqDiff, ↓reduceIte, reduceCtorEq, Nat.reduceAdd, Nat.reduceMul, Int.reduceToNat, List.reduceReplicate, Nat.reduceLeDiff, Nat.reduceLT, Int.reduceLT, Int.reduceLE, Int.reduceEq]) | (with_reducible refine giv_intro fun _h => ?_) | (with_reducible refine alt_intro ?_ (fun _h => ?_)) | ((first | with_reducible refine br_dec (fun _h => ?_) (fun _h => ?_) | with_reducible refine br_ndec (fun _h => ?_) (fun _h => ?_)) <;> (first | (exfalso; omega) | simp only [decide_eq_false _h] | simp only [decide_eq_true _h] | skip)) | ((first | with_reducible refine br_not (fun _h => ?_) (fun _h => ?_) | with_reducible refine br_var (fun _h => ?_) (fun _h => ?_)) <;> (try simp only [_h])) | ((with_reducible apply call_lend (c1)); (focus (simp (disch := omega) only [go_sem, Nat.reduceEqDiff, ↓reduceIte, reduceCtorEq, Nat.reduceAdd, Nat.reduceMul, Int.reduceToNat, List.reduceReplicate, Nat.reduceLeDiff, Nat.reduceLT, Int.reduceLT, Int.reduceLE, Int.reduceEq]; (try rfl); done)); (focus rfl)) | fail)
      (refine loopC hS [1, 2, 3] (by simp only [go_sem, Nat.reduceEqDiff, ↓reduceIte, reduceCtorEq, Nat.reduceAdd, Nat.reduceMul, Int.reduceToNat, List.reduceReplicate, Nat.reduceLeDiff, Nat.reduceLT, Int.reduceLT, Int.reduceLE, Int.reduceEq]; try rfl) (fun (i : Nat) => [(9, sl (undU (vowR s) (louR s) w kind i)), (10, intA i)]) (fun (i : Nat) => [some (.row 37 1 [sl s]), none]) (fun (i : Nat) => i ≤ w.length + 1) (fun (i : Nat) => w.length + 1 - i) (0) ?h03 ?hn3 ?rd3; case hn3 => (intro s; first | rfl | (rcases s with ⟨_, _⟩; rfl) | (rcases s with ⟨_, _, _⟩; rfl) | (rcases s with ⟨_, _, _, _⟩; rfl) | (rcases s with ⟨_, _, _, _, _⟩; rfl)))
      · simp (disch := omega) only [go_sem, Nat.reduceEqDiff, ↓reduceIte, reduceCtorEq, Nat.reduceAdd, Nat.reduceMul, Int.reduceToNat, List.reduceReplicate, Nat.reduceLeDiff, Nat.reduceLT, Int.reduceLT, Int.reduceLE, Int.reduceEq]; simp [undU]; rfl
      rintro i hi
      replace hi : i ≤ w.length + 1 := hi
      by_cases hil : i ≤ w.length
      · have e6 : List.take (w.length - i) (List.drop i w) = List.drop i w := List.take_of_length_le (by simp)
        have c5 := ahead_ok s (w.drop i) kind (by omega) (by simp; omega)
        have hl := headL_len (vowR s) (louR s) (w.drop i) kind
        simp only [List.length_drop] at hl
        have d2 := join_ok (headL (vowR s) (louR s) (w.drop i) kind) (w.drop i) (by simp; omega)
        have d3 := Same_ok (headL (vowR s) (louR s) (w.drop i) kind ++ w.drop i) w
        have d4 := join_ok (w.drop i) [] (by simp; omega)
        rw [List.append_nil] at d4
        have hul := undU_len (vowR s) (louR s) w kind i
        have d5 := into_front (undU (vowR s) (louR s) w kind i) (w.drop i) (fun y hy => by
          obtain ⟨j, hj, rfl⟩ := undU_mem _ _ _ _ i y hy
          simp; omega) (by omega)
        have hst : undU (vowR s) (louR s) w kind (i + 1) = if headL (vowR s) (louR s) (w.drop i) kind = w.take i then w.drop i :: undU (vowR s) (louR s) w kind i else undU (vowR s) (louR s) w kind i := rfl
        have hiff : (headL (vowR s) (louR s) (w.drop i) kind ++ w.drop i = w) ↔ headL (vowR s) (louR s) (w.drop i) kind = w.take i := by
          constructor
          · intro e
            have : headL (vowR s) (louR s) (w.drop i) kind ++ w.drop i = w.take i ++ w.drop i := by rw [List.take_append_drop]; exact e
            exact List.append_cancel_right this
          · intro e; rw [e, List.take_append_drop]
        repeat' (first | (with_reducible refine in_seq ?_) | (with_reducible refine in_reg ?_) | (with_reducible refine in_block ?_) | (with_reducible refine in_cond ?_) | (with_reducible refine in_ret ?_) | (with_reducible refine in_skip ?_) | (simp (disch := omega) only [go_sem, Nat.reduceEqDiff, ↓reduceIte, reduceCtorEq, Nat.reduceAdd, Nat.reduceMul, Int.reduceToNat, List.reduceReplicate, Nat.reduceLeDiff, Nat.reduceLT, Int.reduceLT, Int.reduceLE, Int.reduceEq, e6]) | (with_reducible refine giv_intro fun _h => ?_) | (with_reducible refine alt_intro ?_ (fun _h => ?_)) | ((first | with_reducible refine br_dec (fun _h => ?_) (fun _h => ?_) | with_reducible refine br_ndec (fun _h => ?_) (fun _h => ?_)) <;> (first | (exfalso; omega) | simp only [decide_eq_false _h] | simp only [decide_eq_true _h] | skip)) | ((first | with_reducible refine br_not (fun _h => ?_) (fun _h => ?_) | with_reducible refine br_var (fun _h => ?_) (fun _h => ?_)) <;> (try simp only [_h])) | ((with_reducible apply call (c5)); (focus (simp (disch := omega) only [go_sem, Nat.reduceEqDiff, ↓reduceIte, reduceCtorEq, Nat.reduceAdd, Nat.reduceMul, Int.reduceToNat, List.reduceReplicate, Nat.reduceLeDiff, Nat.reduceLT, Int.reduceLT, Int.reduceLE, Int.reduceEq, e6]; (try rfl); done))) | ((with_reducible apply call (d2)); (focus (simp (disch := omega) only [go_sem, Nat.reduceEqDiff, ↓reduceIte, reduceCtorEq, Nat.reduceAdd, Nat.reduceMul, Int.reduceToNat, List.reduceReplicate, Nat.reduceLeDiff, Nat.reduceLT, Int.reduceLT, Int.reduceLE, Int.reduceEq, e6]; (try rfl); done))) | ((with_reducible apply call (d3)); (focus (simp (disch := omega) only [go_sem, Nat.reduceEqDiff, ↓reduceIte, reduceCtorEq, Nat.reduceAdd, Nat.reduceMul, Int.reduceToNat, List.reduceReplicate, Nat.reduceLeDiff, Nat.reduceLT, Int.reduceLT, Int.reduceLE, Int.reduceEq, e6]; (try rfl); done))) | ((with_reducible apply call (d4)); (focus (simp (disch := omega) only [go_sem, Nat.reduceEqDiff, ↓reduceIte, reduceCtorEq, Nat.reduceAdd, Nat.reduceMul, Int.reduceToNat, List.reduceReplicate, Nat.reduceLeDiff, Nat.reduceLT, Int.reduceLT, Int.reduceLE, Int.reduceEq, e6]; (try rfl); done))) | ((with_reducible apply call (d5)); (focus (simp (disch := omega) only [go_sem, Nat.reduceEqDiff, ↓reduceIte, reduceCtorEq, Nat.reduceAdd, Nat.reduceMul, Int.reduceToNat, List.reduceReplicate, Nat.reduceLeDiff, Nat.reduceLT, Int.reduceLT, Int.reduceLE, Int.reduceEq, e6]; (try rfl); done))) | fail)
        · rw [if_pos (hiff.1 _h)] at hst
          refine ⟨i + 1, ⟨by omega, by omega⟩, ?_, by omega⟩
          rw [hst]; exact ⟨rfl, rfl⟩
        · rw [if_neg (fun e => _h (hiff.2 e))] at hst
          refine ⟨i + 1, ⟨by omega, by omega⟩, ?_, by omega⟩
          rw [hst]; exact ⟨rfl, rfl⟩
      · have hii : i = w.length + 1 := by omega
        subst hii
        repeat' (first | (with_reducible refine in_seq ?_) | (with_reducible refine in_reg ?_) | (with_reducible refine in_block ?_) | (with_reducible refine in_cond ?_) | (with_reducible refine in_ret ?_) | (with_reducible refine in_skip ?_) | (simp (disch := omega) only [go_sem, Nat.reduceEqDiff, ↓reduceIte, reduceCtorEq, Nat.reduceAdd, Nat.reduceMul, Int.reduceToNat, List.reduceReplicate, Nat.reduceLeDiff, Nat.reduceLT, Int.reduceLT, Int.reduceLE, Int.reduceEq]) | (with_reducible refine giv_intro fun _h => ?_) | (with_reducible refine alt_intro ?_ (fun _h => ?_)) | ((first | with_reducible refine br_dec (fun _h => ?_) (fun _h => ?_) | with_reducible refine br_ndec (fun _h => ?_) (fun _h => ?_)) <;> (first | (exfalso; omega) | simp only [decide_eq_false _h] | simp only [decide_eq_true _h] | skip)) | ((first | with_reducible refine br_not (fun _h => ?_) (fun _h => ?_) | with_reducible refine br_var (fun _h => ?_) (fun _h => ?_)) <;> (try simp only [_h])) | fail)
  · rw [undT, if_pos h]
    rw [show firstE [sndErr s, wordsErr [w]] = dblE0 s w from rfl] at c1
    (refine fn_look s43_ok (by simp) (by intro k; simp only [go_sem, Nat.reduceEqDiff, ↓reduceIte, reduceCtorEq, Nat.reduceAdd, Nat.reduceMul, Int.reduceToNat, List.reduceReplicate, Nat.reduceLeDiff, Nat.reduceLT, Int.reduceLT, Int.reduceLE, Int.reduceEq]) fun S hS => cwp_sound _ _ _ _ ?_; simp (disch := omega) only [s43, go_sem, Nat.reduceEqDiff, ↓reduceIte, reduceCtorEq, Nat.reduceAdd, Nat.reduceMul, Int.reduceToNat, List.reduceReplicate, Nat.reduceLeDiff, Nat.reduceLT, Int.reduceLT, Int.reduceLE, Int.reduceEq])
    repeat' (first | (with_reducible refine in_seq ?_) | (with_reducible refine in_reg ?_) | (with_reducible refine in_block ?_) | (with_reducible refine in_cond ?_) | (with_reducible refine in_ret ?_) | (with_reducible refine in_skip ?_) | (simp (disch := omega) only [go_sem, Nat.reduceEqDiff, ↓reduceIte, reduceCtorEq, Nat.reduceAdd, Nat.reduceMul, Int.reduceToNat, List.reduceReplicate, Nat.reduceLeDiff, Nat.reduceLT, Int.reduceLT, Int.reduceLE, Int.reduceEq]) | (with_reducible refine giv_intro fun _h => ?_) | (with_reducible refine alt_intro ?_ (fun _h => ?_)) | ((first | with_reducible refine br_dec (fun _h => ?_) (fun _h => ?_) | with_reducible refine br_ndec (fun _h => ?_) (fun _h => ?_)) <;> (first | (exfalso; omega) | simp only [decide_eq_false _h] | simp only [decide_eq_true _h] | skip)) | ((first | with_reducible refine br_not (fun _h => ?_) (fun _h => ?_) | with_reducible refine br_var (fun _h => ?_) (fun _h => ?_)) <;> (try simp only [_h])) | ((with_reducible apply call_lend (c1)); (focus (simp (disch := omega) only [go_sem, Nat.reduceEqDiff, ↓reduceIte, reduceCtorEq, Nat.reduceAdd, Nat.reduceMul, Int.reduceToNat, List.reduceReplicate, Nat.reduceLeDiff, Nat.reduceLT, Int.reduceLT, Int.reduceLE, Int.reduceEq]; (try rfl); done)); (focus rfl)) | fail)
    rfl
/-- ablaut/ablautlaw13.HarmInfixes: 3 parameters, 0 captured -/
def s8 : SC := .seq (.reg [⟨(some 3), .box 37 1 (.t 0), none⟩,
     ⟨(some 4), .box 47 2 (.t 1), none⟩,
     ⟨(some 6), .mv (.c (.bool false)), none⟩])
  (.seq (.seq (.reg [⟨(some 11), .load (some 1) (.t 3), none⟩,
       ⟨(some 12), .call (.f 25) [(.t 11)], none⟩,
       ⟨(some 13), .mv (.t 12), none⟩,
       ⟨(some 14), .iaddrA 2 1 (.t 4) (.c (.int .i64 0)), some (13, false)⟩,
       ⟨(some 15), .load none (.t 14), some (13, false)⟩,
       ⟨(some 16), .iaddrA 2 1 (.t 4) (.c (.int .i64 1)), some (13, false)⟩,
       ⟨(some 17), .load none (.t 16), some (13, false)⟩,
       ⟨(some 18), .buildSl 22 1 2 [(.slice none 0 0)] [(0, 1, (.t 15)), (1, 1, (.t 17))], some (13, false)⟩,
       ⟨(some 19), .call (.f 16) [(.t 18)], some (13, false)⟩,
       ⟨(some 20), .bin .gtr (.t 19) (.c (.int .i64 32000)), some (13, false)⟩,
       ⟨(some 21), .pick (.t 13) (.c (.bool true)) (.t 20), none⟩])
    (.cond (.t 21) (.seq (.reg [⟨(some 22), .call (.f 17) [], none⟩,
         ⟨(some 6), .mv (.t 22), none⟩])
      (.ret)) (.skip)))
   (.seq (.reg [⟨(some 24), .load (some 1) (.t 3), none⟩,
       ⟨(some 25), .iaddrA 2 1 (.t 4) (.c (.int .i64 0)), none⟩,
       ⟨(some 26), .load none (.t 25), none⟩,
       ⟨(some 27), .iaddrA 2 1 (.t 4) (.c (.int .i64 1)), none⟩,
       ⟨(some 28), .load none (.t 27), none⟩,
       ⟨(some 29), .mv (.t 2), none⟩,
       ⟨(some 30), .call (.f 33) [(.t 24), (.t 26), (.t 28), (.t 29)], none⟩,
       ⟨(some 23), .mv (.t 30), none⟩,
       ⟨(some 31), .ext (.t 23) 0, none⟩,
       ⟨(some 32), .ext (.t 23) 1, none⟩,
       ⟨(some 7), .mv (.t 31), none⟩,
       ⟨(some 8), .mv (.t 32), none⟩])
    (.seq (.reg [⟨(some 34), .load (some 1) (.t 3), none⟩,
        ⟨(some 35), .iaddrA 2 1 (.t 4) (.c (.int .i64 0)), none⟩,
        ⟨(some 36), .load none (.t 35), none⟩,
        ⟨(some 37), .iaddrA 2 1 (.t 4) (.c (.int .i64 1)), none⟩,
        ⟨(some 38), .load none (.t 37), none⟩,
        ⟨(some 39), .mv (.t 2), none⟩,
        ⟨(some 40), .call (.f 34) [(.t 34), (.t 36), (.t 38), (.t 39)], none⟩,
        ⟨(some 33), .mv (.t 40), none⟩,
        ⟨(some 41), .ext (.t 33) 0, none⟩,
        ⟨(some 42), .ext (.t 33) 1, none⟩,
        ⟨(some 9), .mv (.t 41), none⟩,
        ⟨(some 10), .mv (.t 42), none⟩])
     (.seq (.reg [⟨(some 43), .mv (.t 7), none⟩,
         ⟨(some 44), .mv (.t 9), none⟩,
         ⟨(some 45), .call (.f 22) [(.t 43), (.t 44)], none⟩,
         ⟨(some 46), .mv (.t 45), none⟩,
         ⟨(some 47), .mv (.t 8), some (46, true)⟩,
         ⟨(some 48), .mv (.t 10), some (46, true)⟩,
         ⟨(some 49), .bin .eql (.t 47) (.t 48), some (46, true)⟩,
         ⟨(some 50), .pick (.t 46) (.t 49) (.c (.bool false)), none⟩,
         ⟨(some 51), .mv (.t 50), none⟩,
         ⟨(some 52), .call (.f 17) [], some (51, true)⟩,
         ⟨(some 53), .pick (.t 51) (.t 52) (.c (.bool false)), none⟩,
         ⟨(some 6), .mv (.t 53), none⟩])
      (.ret)))))
theorem s8_ok : lookF Try.prog 8 = some (s8, 54, [.tmp 6]) := by kernel_rfl
theorem HarmInfixes_ok (s : List Sound) (w : List Str × List Str) (k : Int) : Fn P 8 [sndA s, .agg [sl w.1, sl w.2], intA k] (boolA true) := by
  have k1 := hInfix_ok s w.1 w.2 k
  have k2 := rInfix_ok s w.1 w.2 k
  generalize infT s w.1 w.2 k = t at *
  (refine fn_look s8_ok (by simp) (by intro k; simp only [go_sem, Nat.reduceEqDiff, ↓reduceIte, reduceCtorEq, Nat.reduceAdd, Nat.reduceMul, Int.reduceToNat, List.reduceReplicate, Nat.reduceLeDiff, Nat.reduceLT, Int.reduceLT, Int.reduceLE, Int.reduceEq]) fun S hS => cwp_sound _ _ _ _ ?_; simp (disch := omega) only [s8, go_sem, Nat.reduceEqDiff, ↓reduceIte, reduceCtorEq, Nat.reduceAdd, Nat.reduceMul, Int.reduceToNat, List.reduceReplicate, Nat.reduceLeDiff, Nat.reduceLT, Int.reduceLT, Int.reduceLE, Int.reduceEq])
  repeat' (first | (with_reducible refine in_seq ?_) | (with_reducible refine in_reg ?_) | (with_reducible refine in_block ?_) | (with_reducible refine in_cond ?_) | (with_reducible refine in_ret ?_) | (with_reducible refine in_skip ?_) | (simp (disch := omega) only [go_sem, Nat.reduceEqDiff, ↓reduceIte, reduceCtorEq, Nat.reduceAdd, Nat.reduceMul, Int.reduceToNat, List.reduceReplicate, Nat.reduceLeDiff, Nat.reduceLT, Int.reduceLT, Int.reduceLE, Int.reduceEq]) | (with_reducible refine giv_intro fun _h => ?_) | (with_reducible refine alt_intro ?_ (fun _h => ?_)) | ((first | with_reducible refine br_dec (fun _h => ?_) (fun _h => ?_) | with_reducible refine br_ndec (fun _h => ?_) (fun _h => ?_)) <;> (first | (exfalso; omega) | simp only [decide_eq_false _h] | simp only [decide_eq_true _h] | skip)) | ((first | with_reducible refine br_not (fun _h => ?_) (fun _h => ?_) | with_reducible refine br_var (fun _h => ?_) (fun _h => ?_)) <;> (try simp only [_h])) | ((with_reducible apply call (known_ok)); (focus (simp (disch := omega) only [go_sem, Nat.reduceEqDiff, ↓reduceIte, reduceCtorEq, Nat.reduceAdd, Nat.reduceMul, Int.reduceToNat, List.reduceReplicate, Nat.reduceLeDiff, Nat.reduceLT, Int.reduceLT, Int.reduceLE, Int.reduceEq]; (try rfl); done))) | ((with_reducible apply callR (over_ok s)); (focus (simp (disch := omega) only [go_sem, Nat.reduceEqDiff, ↓reduceIte, reduceCtorEq, Nat.reduceAdd, Nat.reduceMul, Int.reduceToNat, List.reduceReplicate, Nat.reduceLeDiff, Nat.reduceLT, Int.reduceLT, Int.reduceLE, Int.reduceEq]; (try rfl); done)); (rintro _ ⟨_, rfl⟩)) | ((with_reducible apply callR_lend (bytes_ok [w.1, w.2] (by simp))); (focus (simp (disch := omega) only [go_sem, Nat.reduceEqDiff, ↓reduceIte, reduceCtorEq, Nat.reduceAdd, Nat.reduceMul, Int.reduceToNat, List.reduceReplicate, Nat.reduceLeDiff, Nat.reduceLT, Int.reduceLT, Int.reduceLE, Int.reduceEq]; (try rfl); done)); (focus (rintro _ ⟨_, rfl⟩; rfl)); (rintro _ ⟨_, rfl⟩)) | ((with_reducible apply call (k1)); (focus (simp (disch := omega) only [go_sem, Nat.reduceEqDiff, ↓reduceIte, reduceCtorEq, Nat.reduceAdd, Nat.reduceMul, Int.reduceToNat, List.reduceReplicate, Nat.reduceLeDiff, Nat.reduceLT, Int.reduceLT, Int.reduceLE, Int.reduceEq]; (try rfl); done))) | ((with_reducible apply call (k2)); (focus (simp (disch := omega) only [go_sem, Nat.reduceEqDiff, ↓reduceIte, reduceCtorEq, Nat.reduceAdd, Nat.reduceMul, Int.reduceToNat, List.reduceReplicate, Nat.reduceLeDiff, Nat.reduceLT, Int.reduceLT, Int.reduceLE, Int.reduceEq]; (try rfl); done))) | ((with_reducible apply call (Same_ok _ _)); (focus (simp (disch := omega) only [go_sem, Nat.reduceEqDiff, ↓reduceIte, reduceCtorEq, Nat.reduceAdd, Nat.reduceMul, Int.reduceToNat, List.reduceReplicate, Nat.reduceLeDiff, Nat.reduceLT, Int.reduceLT, Int.reduceLE, Int.reduceEq]; (try rfl); done))) | fail)
/-- ablaut/ablautlaw13.HarmDoubles: 3 parameters, 0 captured -/
def s10 : SC := .seq (.reg [⟨(some 3), .box 37 1 (.t 0), none⟩,
     ⟨(some 6), .mv (.c (.bool false)), none⟩])
  (.seq (.seq (.reg [⟨(some 15), .load (some 1) (.t 3), none⟩,
       ⟨(some 16), .call (.f 25) [(.t 15)], none⟩,
       ⟨(some 17), .mv (.t 16), none⟩,
       ⟨(some 18), .mv (.t 1), some (17, false)⟩,
       ⟨(some 19), .buildSl 22 1 1 [(.slice none 0 0)] [(0, 1, (.t 18))], some (17, false)⟩,
       ⟨(some 20), .call (.f 16) [(.t 19)], some (17, false)⟩,
       ⟨(some 21), .bin .gtr (.t 20) (.c (.int .i64 32000)), some (17, false)⟩,
       ⟨(some 22), .pick (.t 17) (.c (.bool true)) (.t 21), none⟩])
    (.cond (.t 22) (.seq (.reg [⟨(some 23), .call (.f 17) [], none⟩,
         ⟨(some 6), .mv (.t 23), none⟩])
      (.ret)) (.skip)))
   (.seq (.reg [⟨(some 25), .load (some 1) (.t 3), none⟩,
       ⟨(some 26), .mv (.t 1), none⟩,
       ⟨(some 27), .mv (.t 2), none⟩,
       ⟨(some 28), .call (.f 40) [(.t 25), (.t 26), (.t 27)], none⟩,
       ⟨(some 24), .mv (.t 28), none⟩,
       ⟨(some 29), .ext (.t 24) 0, none⟩,
       ⟨(some 30), .ext (.t 24) 1, none⟩,
       ⟨(some 7), .mv (.t 29), none⟩,
       ⟨(some 8), .mv (.t 30), none⟩])
    (.seq (.reg [⟨(some 32), .load (some 1) (.t 3), none⟩,
        ⟨(some 33), .mv (.t 1), none⟩,
        ⟨(some 34), .mv (.t 2), none⟩,
        ⟨(some 35), .call (.f 41) [(.t 32), (.t 33), (.t 34)], none⟩,
        ⟨(some 31), .mv (.t 35), none⟩,
        ⟨(some 36), .ext (.t 31) 0, none⟩,
        ⟨(some 37), .ext (.t 31) 1, none⟩,
        ⟨(some 9), .mv (.t 36), none⟩,
        ⟨(some 10), .mv (.t 37), none⟩])
     (.seq (.reg [⟨(some 39), .load (some 1) (.t 3), none⟩,
         ⟨(some 40), .mv (.t 1), none⟩,
         ⟨(some 41), .mv (.t 2), none⟩,
         ⟨(some 42), .call (.f 42) [(.t 39), (.t 40), (.t 41)], none⟩,
         ⟨(some 38), .mv (.t 42), none⟩,
         ⟨(some 43), .ext (.t 38) 0, none⟩,
         ⟨(some 44), .ext (.t 38) 1, none⟩,
         ⟨(some 11), .mv (.t 43), none⟩,
         ⟨(some 12), .mv (.t 44), none⟩])
      (.seq (.reg [⟨(some 46), .load (some 1) (.t 3), none⟩,
          ⟨(some 47), .mv (.t 1), none⟩,
          ⟨(some 48), .mv (.t 2), none⟩,
          ⟨(some 49), .call (.f 43) [(.t 46), (.t 47), (.t 48)], none⟩,
          ⟨(some 45), .mv (.t 49), none⟩,
          ⟨(some 50), .ext (.t 45) 0, none⟩,
          ⟨(some 51), .ext (.t 45) 1, none⟩,
          ⟨(some 13), .mv (.t 50), none⟩,
          ⟨(some 14), .mv (.t 51), none⟩])
       (.seq (.reg [⟨(some 52), .mv (.t 7), none⟩,
           ⟨(some 53), .mv (.t 9), none⟩,
           ⟨(some 54), .call (.f 22) [(.t 52), (.t 53)], none⟩,
           ⟨(some 55), .mv (.t 54), none⟩,
           ⟨(some 56), .mv (.t 8), some (55, true)⟩,
           ⟨(some 57), .mv (.t 10), some (55, true)⟩,
           ⟨(some 58), .bin .eql (.t 56) (.t 57), some (55, true)⟩,
           ⟨(some 59), .pick (.t 55) (.t 58) (.c (.bool false)), none⟩,
           ⟨(some 60), .mv (.t 59), none⟩,
           ⟨(some 61), .mv (.t 11), some (60, true)⟩,
           ⟨(some 62), .mv (.t 13), some (60, true)⟩,
           ⟨(some 63), .call (.f 23) [(.t 61), (.t 62)], some (60, true)⟩,
           ⟨(some 64), .pick (.t 60) (.t 63) (.c (.bool false)), none⟩,
           ⟨(some 65), .mv (.t 64), none⟩,
           ⟨(some 66), .mv (.t 12), some (65, true)⟩,
           ⟨(some 67), .mv (.t 14), some (65, true)⟩,
           ⟨(some 68), .bin .eql (.t 66) (.t 67), some (65, true)⟩,
           ⟨(some 69), .pick (.t 65) (.t 68) (.c (.bool false)), none⟩,
           ⟨(some 70), .mv (.t 69), none⟩,
           ⟨(some 71), .call (.f 17) [], some (70, true)⟩,
           ⟨(some 72), .pick (.t 70) (.t 71) (.c (.bool false)), none⟩,
           ⟨(some 6), .mv (.t 72), none⟩])
        (.ret)))))))
theorem s10_ok : lookF Try.prog 10 = some (s10, 73, [.tmp 6]) := by kernel_rfl
set_option maxHeartbeats 1000000 in
theorem HarmDoubles_ok (s : List Sound) (w : List Str) (kind : Int) : Fn P 10 [sndA s, sl w, intA kind] (boolA true) := by
  have k1 := hDouble_ok s w kind
  have k2 := rDouble_ok s w kind
  have k3 := hUndouble_ok s w kind
  have k4 := rUndouble_ok s w kind
  generalize dblT s w kind = t1 at *
  generalize undT s w kind = t2 at *
  (refine fn_look s10_ok (by simp) (by intro k; simp only [go_sem, Nat.reduceEqDiff, ↓reduceIte, reduceCtorEq, Nat.reduceAdd, Nat.reduceMul, Int.reduceToNat, List.reduceReplicate, Nat.reduceLeDiff, Nat.reduceLT, Int.reduceLT, Int.reduceLE, Int.reduceEq]) fun S hS => cwp_sound _ _ _ _ ?_; simp (disch := omega) only [s10, go_sem, Nat.reduceEqDiff, ↓reduceIte, reduceCtorEq, Nat.reduceAdd, Nat.reduceMul, Int.reduceToNat, List.reduceReplicate, Nat.reduceLeDiff, Nat.reduceLT, Int.reduceLT, Int.reduceLE, Int.reduceEq])
  repeat' (first | (with_reducible refine in_seq ?_) | (with_reducible refine in_reg ?_) | (with_reducible refine in_block ?_) | (with_reducible refine in_cond ?_) | (with_reducible refine in_ret ?_) | (with_reducible refine in_skip ?_) | (simp (disch := omega) only [go_sem, Nat.reduceEqDiff, ↓reduceIte, reduceCtorEq, Nat.reduceAdd, Nat.reduceMul, Int.reduceToNat, List.reduceReplicate, Nat.reduceLeDiff, Nat.reduceLT, Int.reduceLT, Int.reduceLE, Int.reduceEq]) | (with_reducible refine giv_intro fun _h => ?_) | (with_reducible refine alt_intro ?_ (fun _h => ?_)) | ((first | with_reducible refine br_dec (fun _h => ?_) (fun _h => ?_) | with_reducible refine br_ndec (fun _h => ?_) (fun _h => ?_)) <;> (first | (exfalso; omega) | simp only [decide_eq_false _h] | simp only [decide_eq_true _h] | skip)) | ((first | with_reducible refine br_not (fun _h => ?_) (fun _h => ?_) | with_reducible refine br_var (fun _h => ?_) (fun _h => ?_)) <;> (try simp only [_h])) | ((with_reducible apply call (known_ok)); (focus (simp (disch := omega) only [go_sem, Nat.reduceEqDiff, ↓reduceIte, reduceCtorEq, Nat.reduceAdd, Nat.reduceMul, Int.reduceToNat, List.reduceReplicate, Nat.reduceLeDiff, Nat.reduceLT, Int.reduceLT, Int.reduceLE, Int.reduceEq]; (try rfl); done))) | ((with_reducible apply callR (over_ok s)); (focus (simp (disch := omega) only [go_sem, Nat.reduceEqDiff, ↓reduceIte, reduceCtorEq, Nat.reduceAdd, Nat.reduceMul, Int.reduceToNat, List.reduceReplicate, Nat.reduceLeDiff, Nat.reduceLT, Int.reduceLT, Int.reduceLE, Int.reduceEq]; (try rfl); done)); (rintro _ ⟨_, rfl⟩)) | ((with_reducible apply callR_lend (bytes_ok [w] (by simp))); (focus (simp (disch := omega) only [go_sem, Nat.reduceEqDiff, ↓reduceIte, reduceCtorEq, Nat.reduceAdd, Nat.reduceMul, Int.reduceToNat, List.reduceReplicate, Nat.reduceLeDiff, Nat.reduceLT, Int.reduceLT, Int.reduceLE, Int.reduceEq]; (try rfl); done)); (focus (rintro _ ⟨_, rfl⟩; rfl)); (rintro _ ⟨_, rfl⟩)) | ((with_reducible apply call (k1)); (focus (simp (disch := omega) only [go_sem, Nat.reduceEqDiff, ↓reduceIte, reduceCtorEq, Nat.reduceAdd, Nat.reduceMul, Int.reduceToNat, List.reduceReplicate, Nat.reduceLeDiff, Nat.reduceLT, Int.reduceLT, Int.reduceLE, Int.reduceEq]; (try rfl); done))) | ((with_reducible apply call (k2)); (focus (simp (disch := omega) only [go_sem, Nat.reduceEqDiff, ↓reduceIte, reduceCtorEq, Nat.reduceAdd, Nat.reduceMul, Int.reduceToNat, List.reduceReplicate, Nat.reduceLeDiff, Nat.reduceLT, Int.reduceLT, Int.reduceLE, Int.reduceEq]; (try rfl); done))) | ((with_reducible apply call (k3)); (focus (simp (disch := omega) only [go_sem, Nat.reduceEqDiff, ↓reduceIte, reduceCtorEq, Nat.reduceAdd, Nat.reduceMul, Int.reduceToNat, List.reduceReplicate, Nat.reduceLeDiff, Nat.reduceLT, Int.reduceLT, Int.reduceLE, Int.reduceEq]; (try rfl); done))) | ((with_reducible apply call (k4)); (focus (simp (disch := omega) only [go_sem, Nat.reduceEqDiff, ↓reduceIte, reduceCtorEq, Nat.reduceAdd, Nat.reduceMul, Int.reduceToNat, List.reduceReplicate, Nat.reduceLeDiff, Nat.reduceLT, Int.reduceLT, Int.reduceLE, Int.reduceEq]; (try rfl); done))) | ((with_reducible apply call (Same_ok _ _)); (focus (simp (disch := omega) only [go_sem, Nat.reduceEqDiff, ↓reduceIte, reduceCtorEq, Nat.reduceAdd, Nat.reduceMul, Int.reduceToNat, List.reduceReplicate, Nat.reduceLeDiff, Nat.reduceLT, Int.reduceLT, Int.reduceLE, Int.reduceEq]; (try rfl); done))) | ((with_reducible apply call (SameWords_ok _ _)); (focus (simp (disch := omega) only [go_sem, Nat.reduceEqDiff, ↓reduceIte, reduceCtorEq, Nat.reduceAdd, Nat.reduceMul, Int.reduceToNat, List.reduceReplicate, Nat.reduceLeDiff, Nat.reduceLT, Int.reduceLT, Int.reduceLE, Int.reduceEq]; (try rfl); done))) | fail)
end Go.Proofs.Ytpfoflhhbkjngaa.Ev

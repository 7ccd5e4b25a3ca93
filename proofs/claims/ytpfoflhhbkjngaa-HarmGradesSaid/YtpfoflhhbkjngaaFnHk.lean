/- What becomes of a word by grades: Grade and Mutate by both; the law HarmGrades. -/
import Derived.Test.YtpfoflhhbkjngaaFnHj
set_option linter.unusedVariables false
set_option linter.unusedSimpArgs false
namespace Go.Proofs.Ytpfoflhhbkjngaa.Ev
open Go Go.Proofs

abbrev tri (t : List Str × Bool × Int) : AV := .tup [sl t.1, boolA t.2.1, intA t.2.2]
theorem grFind_step {w : List Str} {a b : Int} {l : List Grade} {i : Nat} (h : i < l.length) : grFind w a b (l.drop i) = if (nth l i).1 = grMid w a b then (heldV (turnL w (a + 1).toNat b.toNat (nth l i).2), decide (heldE (turnL w (a + 1).toNat b.toNat (nth l i).2) = 0), heldE (turnL w (a + 1).toNat b.toNat (nth l i).2)) else grFind w a b (l.drop (i + 1)) := by
  rw [nth_drop h, grFind]
structure Two (v : Str → Bool) (w : List Str) (i : Nat) (out : List Int) : Prop where
  len : out.length ≤ i
  one : (st2 v w i).2 = if out.length = 0 then -1 else nth out (out.length - 1)
  two : (st2 v w i).1 = if out.length ≤ 1 then -1 else nth out (out.length - 2)
  pos : ∀ x ∈ out, 0 ≤ x
theorem nth_app1 (out : List Int) (x : Int) : nth (out ++ [x]) out.length = x := by simp [nth]
theorem nth_app0 {out : List Int} {j : Nat} (h : j < out.length) (x : Int) : nth (out ++ [x]) j = nth out j := by simp [nth, List.getElem?_append_left h, h]
theorem Two.yes {v : Str → Bool} {w : List Str} {i : Nat} {out : List Int} (h : Two v w i out) (hv : v (nth w i) = true) : Two v w (i + 1) (out ++ [(i : Int)]) := by
  refine ⟨by have := h.len; simp; omega, ?_, ?_, fun x hx => ?_⟩
  · rw [st2, if_pos hv]; simp [nth_app1]
  · rw [st2, if_pos hv]
    show (st2 v w i).2 = _
    rw [h.one]
    by_cases e : out.length = 0
    · simp [e]
    · rw [if_neg e, if_neg (by simp only [List.length_append, List.length_singleton]; omega)]
      simp only [List.length_append, List.length_singleton]
      rw [show out.length + 1 - 2 = out.length - 1 by omega, nth_app0 (by omega)]
  · rcases List.mem_append.1 hx with hx | hx
    · exact h.pos x hx
    · simp at hx; omega
theorem Two.no {v : Str → Bool} {w : List Str} {i : Nat} {out : List Int} (h : Two v w i out) (hv : v (nth w i) = false) : Two v w (i + 1) out := by
  refine ⟨by have := h.len; omega, ?_, ?_, ?_⟩
  · rw [st2, if_neg (by rw [hv]; simp), h.one]
  · rw [st2, if_neg (by rw [hv]; simp), h.two]
  · exact h.pos
/-- ablaut/harm.Grade: 3 parameters, 0 captured -/
def s36 : SC := .seq (.reg [⟨(some 4), .box 37 1 (.t 1), none⟩,
     ⟨(some 6), .mv (.c (.slice none 0 0)), none⟩,
     ⟨(some 7), .mv (.c (.bool false)), none⟩,
     ⟨(some 8), .mv (.c (.int .i64 0)), none⟩])
  (.seq (.seq (.regD [⟨(some 17), .mv (.t 0), none⟩,
       ⟨(some 18), .call (.f 77) [(.t 17)], none⟩,
       ⟨(some 19), .load (some 1) (.t 4), none⟩,
       ⟨(some 20), .call (.f 51) [(.t 19)], none⟩,
       ⟨(some 21), .mv (.t 2), none⟩,
       ⟨(some 22), .buildSl 22 1 1 [(.slice none 0 0)] [(0, 1, (.t 21))], none⟩,
       ⟨(some 23), .call (.f 53) [(.t 22)], none⟩,
       ⟨(some 24), .buildSl 25 1 3 [(.int .i64 0)] [(0, 1, (.t 18)), (1, 1, (.t 20)), (2, 1, (.t 23))], none⟩,
       ⟨(some 25), .call (.f 62) [(.t 24)], none⟩,
       ⟨(some 9), .mv (.t 25), none⟩])
    (.seq (.reg [⟨(some 26), .mv (.t 9), none⟩,
        ⟨(some 27), .bin .neq (.t 26) (.c (.int .i64 0)), none⟩])
     (.cond (.t 27) (.seq (.reg [⟨(some 28), .mv (.t 9), none⟩,
          ⟨(some 6), .mv (.c (.slice none 0 0)), none⟩,
          ⟨(some 7), .mv (.c (.bool false)), none⟩,
          ⟨(some 8), .mv (.t 28), none⟩])
       (.ret)) (.skip))))
   (.seq (.reg [⟨(some 10), .mv (.c (.slice none 0 0)), none⟩])
    (.seq (.seq (.reg [⟨(some 29), .mv (.t 2), none⟩,
         ⟨(some 30), .lenL (.t 29), none⟩,
         ⟨(some 31), .mv (.c (.int .i64 0)), none⟩])
      (.block 0 (.loop (.seq (.reg [⟨(some 32), .bin .lss (.t 31) (.t 30), none⟩])
         (.seq (.cond (.t 32) (.skip) (.exit 0))
          (.seq (.block 1 (.seq (.reg [⟨(some 33), .mv (.t 31), none⟩,
                ⟨(some 34), .iaddr 1 (.t 29) (.t 31), none⟩,
                ⟨(some 35), .load none (.t 34), none⟩,
                ⟨(some 11), .mv (.t 33), none⟩,
                ⟨(some 12), .mv (.t 35), none⟩])
             (.seq (.reg [⟨(some 36), .load (some 1) (.t 4), none⟩,
                 ⟨(some 37), .call (.f 63) [(.t 36)], none⟩,
                 ⟨(some 38), .mv (.t 12), none⟩,
                 ⟨(some 39), .call (.f 73) [(.t 37), (.t 38)], none⟩])
              (.cond (.t 39) (.reg [⟨(some 40), .mv (.t 10), none⟩,
                  ⟨(some 41), .mv (.t 11), none⟩,
                  ⟨(some 42), .buildSl 3 1 1 [(.int .i64 0)] [(0, 1, (.t 41))], none⟩,
                  ⟨(some 43), .app 3 1 8 (.t 40) (.t 42), none⟩,
                  ⟨(some 10), .mv (.t 43), none⟩]) (.skip)))))
           (.reg [⟨(some 44), .bin .add (.t 31) (.c (.int .i64 1)), none⟩,
              ⟨(some 31), .mv (.t 44), none⟩])))))))
     (.seq (.seq (.reg [⟨(some 45), .mv (.t 10), none⟩,
          ⟨(some 46), .lenL (.t 45), none⟩,
          ⟨(some 47), .bin .gtr (.t 46) (.c (.int .i64 1)), none⟩])
       (.cond (.t 47) (.seq (.regD [⟨(some 48), .mv (.t 10), none⟩,
            ⟨(some 49), .mv (.t 10), none⟩,
            ⟨(some 50), .lenL (.t 49), none⟩,
            ⟨(some 51), .bin .sub (.t 50) (.c (.int .i64 2)), none⟩,
            ⟨(some 52), .iaddr 1 (.t 48) (.t 51), none⟩,
            ⟨(some 53), .load none (.t 52), none⟩,
            ⟨(some 54), .bin .add (.t 53) (.c (.int .i64 1)), none⟩,
            ⟨(some 55), .mv (.t 10), none⟩,
            ⟨(some 56), .mv (.t 10), none⟩,
            ⟨(some 57), .lenL (.t 56), none⟩,
            ⟨(some 58), .bin .sub (.t 57) (.c (.int .i64 1)), none⟩,
            ⟨(some 59), .iaddr 1 (.t 55) (.t 58), none⟩,
            ⟨(some 60), .load none (.t 59), none⟩,
            ⟨(some 13), .mv (.t 54), none⟩,
            ⟨(some 14), .mv (.t 60), none⟩])
         (.seq (.reg [⟨(some 61), .mv (.t 0), none⟩,
             ⟨(some 62), .lenL (.t 61), none⟩,
             ⟨(some 63), .mv (.c (.int .i64 0)), none⟩])
          (.block 2 (.loop (.seq (.reg [⟨(some 64), .bin .lss (.t 63) (.t 62), none⟩])
             (.seq (.cond (.t 64) (.skip) (.exit 2))
              (.seq (.block 3 (.seq (.reg [⟨(some 65), .iaddr 2 (.t 61) (.t 63), none⟩,
                    ⟨(some 66), .load (some 2) (.t 65), none⟩,
                    ⟨(some 16), .alloc 92 2 [(.slice none 0 0), (.slice none 0 0)], none⟩,
                    ⟨none, .store 2 (.t 16) (.t 66), none⟩])
                 (.seq (.regD [⟨(some 67), .faddr 0 (.t 16), none⟩,
                     ⟨(some 68), .load none (.t 67), none⟩,
                     ⟨(some 69), .mv (.t 2), none⟩,
                     ⟨(some 70), .mv (.t 13), none⟩,
                     ⟨(some 71), .mv (.t 14), none⟩,
                     ⟨(some 72), .sl 1 (.t 69) (some (.t 70)) (some (.t 71)), none⟩,
                     ⟨(some 73), .call (.f 59) [(.t 68), (.t 72)], none⟩])
                  (.cond (.t 73) (.seq (.reg [⟨(some 74), .mv (.t 2), none⟩,
                       ⟨(some 75), .mv (.t 13), none⟩,
                       ⟨(some 76), .mv (.t 14), none⟩,
                       ⟨(some 77), .faddr 1 (.t 16), none⟩,
                       ⟨(some 78), .load none (.t 77), none⟩,
                       ⟨(some 79), .call (.f 78) [(.t 74), (.t 75), (.t 76), (.t 78)], none⟩,
                       ⟨(some 80), .ext (.t 79) 0, none⟩,
                       ⟨(some 81), .ext (.t 79) 1, none⟩,
                       ⟨(some 82), .ext (.t 79) 2, none⟩,
                       ⟨(some 6), .mv (.t 80), none⟩,
                       ⟨(some 7), .mv (.t 81), none⟩,
                       ⟨(some 8), .mv (.t 82), none⟩])
                    (.ret)) (.skip)))))
               (.reg [⟨(some 83), .bin .add (.t 63) (.c (.int .i64 1)), none⟩,
                  ⟨(some 63), .mv (.t 83), none⟩])))))))) (.skip)))
      (.seq (.reg [⟨(some 84), .mv (.t 2), none⟩,
          ⟨(some 85), .call (.f 79) [(.t 84)], none⟩,
          ⟨(some 6), .mv (.t 85), none⟩,
          ⟨(some 7), .mv (.c (.bool false)), none⟩,
          ⟨(some 8), .mv (.c (.int .i64 0)), none⟩])
       (.ret))))))
theorem s36_ok : lookF Try.prog 36 = some (s36, 86, [.tmp 6, .tmp 7, .tmp 8]) := by kernel_rfl
set_option maxHeartbeats 2000000 in
theorem hGrade_ok (l : List Grade) (s : List Sound) (w : List Str) : Fn P 36 [sl l, sndA s, sl w] (tri (gradeT l s w)) := by
  have c1 := hGrades_ok l
  have c2 := hValidate_ok s
  have c3 := words_ok [w]
  have c4 := first_ok [grdErr l, sndErr s, wordsErr [w]]
  by_cases h : gradeE0 l s w = 0
  · obtain ⟨h1, h2, h3⟩ := three_zero h
    have hw := wordErr_len (wordsErr_one h3)
    have hg := grd_good h1
    have hgT : gradeT l s w = if 0 ≤ (st2 (vowR s) w w.length).1 then grFind w (st2 (vowR s) w w.length).1 (st2 (vowR s) w w.length).2 l else (w, false, 0) := by rw [gradeT, if_neg (by omega)]
    rw [show firstE [grdErr l, sndErr s, wordsErr [w]] = 0 from h] at c4
    rw [hgT]
    have hv := vowM_of h2
    have hr := st2_range (vowR s) w w.length
    have k9 := cloneS_ok w (by omega)
    (refine fn_look s36_ok (by simp) (by intro k; simp only [go_sem, Nat.reduceEqDiff, ↓reduceIte, reduceCtorEq, Nat.reduceAdd, Nat.reduceMul, Int.reduceToNat, List.reduceReplicate, Nat.reduceLeDiff, Nat.reduceLT, Int.reduceLT, Int.reduceLE, Int.reduceEq]) fun S hS => cwp_sound _ _ _ _ ?_; simp (disch := omega) only [s36, go_sem, Nat.reduceEqDiff, ↓reduceIte, reduceCtorEq, Nat.reduceAdd, Nat.reduceMul, Int.reduceToNat, List.reduceReplicate, Nat.reduceLeDiff, Nat.reduceLT, Int.reduceLT, Int.reduceLE, Int.reduceEq])
    repeat' (first | (with_reducible refine in_seq ?_) | (with_reducible refine in_reg ?_) | (with_reducible refine in_block ?_) | (with_reducible refine in_cond ?_) | (with_reducible refine in_ret ?_) | (with_reducible refine in_skip ?_) | (simp (disch := omega) only [go_sem, Nat.reduceEqDiff, ↓reduceIte, reduceCtorEq, Nat.reduceAdd, Nat.reduceMul, Int.reduceToNat, List.reduceReplicate, Nat.reduceLeDiff, Nat.reduceLT, Int.reduceLT, Int.reduceLE, Int.reduceEq]) | (with_reducible refine giv_intro fun _h => ?_) | (with_reducible refine alt_intro ?_ (fun _h => ?_)) | ((first | with_reducible refine br_dec (fun _h => ?_) (fun _h => ?_) | with_reducible refine br_ndec (fun _h => ?_) (fun _h => ?_)) <;> (first | (exfalso; omega) | simp only [decide_eq_false _h] | simp only [decide_eq_true _h] | skip)) | ((first | with_reducible refine br_not (fun _h => ?_) (fun _h => ?_) | with_reducible refine br_var (fun _h => ?_) (fun _h => ?_)) <;> (try simp only [_h])) | ((with_reducible apply call_D (c1)); (focus (simp (disch := omega) only [go_sem, Nat.reduceEqDiff, ↓reduceIte, reduceCtorEq, Nat.reduceAdd, Nat.reduceMul, Int.reduceToNat, List.reduceReplicate, Nat.reduceLeDiff, Nat.reduceLT, Int.reduceLT, Int.reduceLE, Int.reduceEq]; (try rfl); done))) | ((with_reducible apply call_D (c2)); (focus (simp (disch := omega) only [go_sem, Nat.reduceEqDiff, ↓reduceIte, reduceCtorEq, Nat.reduceAdd, Nat.reduceMul, Int.reduceToNat, List.reduceReplicate, Nat.reduceLeDiff, Nat.reduceLT, Int.reduceLT, Int.reduceLE, Int.reduceEq]; (try rfl); done))) | ((with_reducible apply call_D (c3)); (focus (simp (disch := omega) only [go_sem, Nat.reduceEqDiff, ↓reduceIte, reduceCtorEq, Nat.reduceAdd, Nat.reduceMul, Int.reduceToNat, List.reduceReplicate, Nat.reduceLeDiff, Nat.reduceLT, Int.reduceLT, Int.reduceLE, Int.reduceEq]; (try rfl); done))) | ((with_reducible apply call_D (c4)); (focus (simp (disch := omega) only [go_sem, Nat.reduceEqDiff, ↓reduceIte, reduceCtorEq, Nat.reduceAdd, Nat.reduceMul, Int.reduceToNat, List.reduceReplicate, Nat.reduceLeDiff, Nat.reduceLT, Int.reduceLT, Int.reduceLE, Int.reduceEq]; (try rfl); done))) | fail)
    refine nil_row 10 3 1 (by simp (disch := omega) only [go_sem, Nat.reduceEqDiff, ↓reduceIte, reduceCtorEq, Nat.reduceAdd, Nat.reduceMul, Int.reduceToNat, List.reduceReplicate, Nat.reduceLeDiff, Nat.reduceLT, Int.reduceLT, Int.reduceLE, Int.reduceEq]) ?_
    (refine loopC hS [0, 2, 4, 29, 30] (by simp only [go_sem, Nat.reduceEqDiff, ↓reduceIte, reduceCtorEq, Nat.reduceAdd, Nat.reduceMul, Int.reduceToNat, List.reduceReplicate, Nat.reduceLeDiff, Nat.reduceLT, Int.reduceLT, Int.reduceLE, Int.reduceEq]; try rfl) (fun (⟨i, out⟩ : Nat × List Int) => [(10, own S 1 out), (31, intA i)]) (fun (⟨i, out⟩ : Nat × List Int) => [some (.row 37 1 [sl s]), rowO 3 out]) (fun (⟨i, out⟩ : Nat × List Int) => i ≤ w.length ∧ Two (vowR s) w i out) (fun (⟨i, out⟩ : Nat × List Int) => w.length - i) ((0, [])) ?h01 ?hn1 ?rd1; case hn1 => (intro s; first | rfl | (rcases s with ⟨_, _⟩; rfl) | (rcases s with ⟨_, _, _⟩; rfl) | (rcases s with ⟨_, _, _, _⟩; rfl) | (rcases s with ⟨_, _, _, _, _⟩; rfl)))
    · simp (disch := omega) only [go_sem, Nat.reduceEqDiff, ↓reduceIte, reduceCtorEq, Nat.reduceAdd, Nat.reduceMul, Int.reduceToNat, List.reduceReplicate, Nat.reduceLeDiff, Nat.reduceLT, Int.reduceLT, Int.reduceLE, Int.reduceEq]
      exact ⟨Nat.zero_le _, ⟨by simp, by simp [st2], by simp [st2], by simp⟩⟩
    rintro ⟨i, out⟩ ⟨hi, ht⟩
    replace hi : i ≤ w.length := hi
    replace ht : Two (vowR s) w i out := ht
    have hol := ht.len
    by_cases hil : i < w.length
    · have d1 := vowel_ok (ofM s) (nth w i)
      rw [hv] at d1
      repeat' (first | (with_reducible refine in_seq ?_) | (with_reducible refine in_reg ?_) | (with_reducible refine in_block ?_) | (with_reducible refine in_cond ?_) | (with_reducible refine in_ret ?_) | (with_reducible refine in_skip ?_) | (simp (disch := omega) only [go_sem, Nat.reduceEqDiff, ↓reduceIte, reduceCtorEq, Nat.reduceAdd, Nat.reduceMul, Int.reduceToNat, List.reduceReplicate, Nat.reduceLeDiff, Nat.reduceLT, Int.reduceLT, Int.reduceLE, Int.reduceEq]) | (with_reducible refine giv_intro fun _h => ?_) | (with_reducible refine alt_intro ?_ (fun _h => ?_)) | ((first | with_reducible refine br_dec (fun _h => ?_) (fun _h => ?_) | with_reducible refine br_ndec (fun _h => ?_) (fun _h => ?_)) <;> (first | (exfalso; omega) | simp only [decide_eq_false _h] | simp only [decide_eq_true _h] | skip)) | ((first | with_reducible refine br_not (fun _h => ?_) (fun _h => ?_) | with_reducible refine br_var (fun _h => ?_) (fun _h => ?_)) <;> (try simp only [_h])) | ((with_reducible apply call (of_ok s)); (focus (simp (disch := omega) only [go_sem, Nat.reduceEqDiff, ↓reduceIte, reduceCtorEq, Nat.reduceAdd, Nat.reduceMul, Int.reduceToNat, List.reduceReplicate, Nat.reduceLeDiff, Nat.reduceLT, Int.reduceLT, Int.reduceLE, Int.reduceEq]; (try rfl); done))) | ((with_reducible apply call (d1)); (focus (simp (disch := omega) only [go_sem, Nat.reduceEqDiff, ↓reduceIte, reduceCtorEq, Nat.reduceAdd, Nat.reduceMul, Int.reduceToNat, List.reduceReplicate, Nat.reduceLeDiff, Nat.reduceLT, Int.reduceLT, Int.reduceLE, Int.reduceEq]; (try rfl); done))) | fail)
      · refine ⟨(i + 1, out ++ [(i : Int)]), ?_⟩
        dsimp only
        exact ⟨⟨by omega, by omega, ht.yes _h⟩, ⟨⟨by simp, by simp⟩, by omega⟩, rfl⟩
      · refine ⟨(i + 1, out), ?_⟩
        dsimp only
        exact ⟨⟨by omega, by omega, ht.no _h⟩, ⟨⟨rfl, rfl⟩, by omega⟩, rfl⟩
    · have hii : i = w.length := by omega
      rw [hii] at ht
      have t1 := ht.one
      have t2 := ht.two
      by_cases ho : 1 < out.length
      · rw [if_neg (by omega)] at t1 t2
        have e1 : ((out.length : Int) - 2).toNat = out.length - 2 := by omega
        have e2 : ((out.length : Int) - 1).toNat = out.length - 1 := by omega
        have hpa : 0 ≤ nth out (out.length - 2) := ht.pos _ (nth_mem (by omega))
        generalize ha : nth out (out.length - 2) = a at *
        generalize hb : nth out (out.length - 1) = b at *
        rw [t1, t2] at hr
        rw [t1, t2]
        by_cases ha0 : 0 ≤ a
        · rw [if_pos ha0]
          have e3 : (a + 1).toNat ≤ b.toNat := by omega
          have e4 : ((a + 1).toNat : Int) = a + 1 := by omega
          have e5 : (b.toNat : Int) = b := by omega
          repeat' (first | (with_reducible refine in_seq ?_) | (with_reducible refine in_reg ?_) | (with_reducible refine in_block ?_) | (with_reducible refine in_cond ?_) | (with_reducible refine in_ret ?_) | (with_reducible refine in_skip ?_) | (simp (disch := omega) only [go_sem, Nat.reduceEqDiff, ↓reduceIte, reduceCtorEq, Nat.reduceAdd, Nat.reduceMul, Int.reduceToNat, List.reduceReplicate, Nat.reduceLeDiff, Nat.reduceLT, Int.reduceLT, Int.reduceLE, Int.reduceEq, e1, e2, ha, hb]) | (with_reducible refine giv_intro fun _h => ?_) | (with_reducible refine alt_intro ?_ (fun _h => ?_)) | ((first | with_reducible refine br_dec (fun _h => ?_) (fun _h => ?_) | with_reducible refine br_ndec (fun _h => ?_) (fun _h => ?_)) <;> (first | (exfalso; omega) | simp only [decide_eq_false _h] | simp only [decide_eq_true _h] | skip)) | ((first | with_reducible refine br_not (fun _h => ?_) (fun _h => ?_) | with_reducible refine br_var (fun _h => ?_) (fun _h => ?_)) <;> (try simp only [_h])) | fail)
          (refine loopC hS [2, 13, 14, 61, 62] (by simp only [go_sem, Nat.reduceEqDiff, ↓reduceIte, reduceCtorEq, Nat.reduceAdd, Nat.reduceMul, Int.reduceToNat, List.reduceReplicate, Nat.reduceLeDiff, Nat.reduceLT, Int.reduceLT, Int.reduceLE, Int.reduceEq]; try rfl) (fun (j : Nat) => [(63, intA j)]) (fun (j : Nat) => [none, none]) (fun (j : Nat) => j ≤ l.length ∧ grFind w a b l = grFind w a b (l.drop j)) (fun (j : Nat) => l.length - j) (0) ?h02 ?hn2 ?rd2; case hn2 => (intro s; first | rfl | (rcases s with ⟨_, _⟩; rfl) | (rcases s with ⟨_, _, _⟩; rfl) | (rcases s with ⟨_, _, _, _⟩; rfl) | (rcases s with ⟨_, _, _, _, _⟩; rfl)))
          · simp (disch := omega) only [go_sem, Nat.reduceEqDiff, ↓reduceIte, reduceCtorEq, Nat.reduceAdd, Nat.reduceMul, Int.reduceToNat, List.reduceReplicate, Nat.reduceLeDiff, Nat.reduceLT, Int.reduceLT, Int.reduceLE, Int.reduceEq]; simp
          rintro j ⟨hj, hJ⟩
          replace hj : j ≤ l.length := hj
          replace hJ : grFind w a b l = grFind w a b (l.drop j) := hJ
          by_cases hjl : j < l.length
          · rw [grFind_step hjl] at hJ
            have hgj := hg.2 _ (nth_mem hjl)
            have d1 := Equal_ok (nth l j).1 (grMid w a b)
            have c5 := turned_ok w (nth l j).2 (a + 1).toNat b.toNat (by omega) (by omega) (by omega) (by omega)
            rw [e4, e5] at c5
            have eg : List.take (b.toNat - (a + 1).toNat) (List.drop (a + 1).toNat w) = grMid w a b := rfl
            repeat' (first | (with_reducible refine in_seq ?_) | (with_reducible refine in_reg ?_) | (with_reducible refine in_block ?_) | (with_reducible refine in_cond ?_) | (with_reducible refine in_ret ?_) | (with_reducible refine in_skip ?_) | (simp (disch := omega) only [go_sem, Nat.reduceEqDiff, ↓reduceIte, reduceCtorEq, Nat.reduceAdd, Nat.reduceMul, Int.reduceToNat, List.reduceReplicate, Nat.reduceLeDiff, Nat.reduceLT, Int.reduceLT, Int.reduceLE, Int.reduceEq, eg]) | (with_reducible refine giv_intro fun _h => ?_) | (with_reducible refine alt_intro ?_ (fun _h => ?_)) | ((first | with_reducible refine br_dec (fun _h => ?_) (fun _h => ?_) | with_reducible refine br_ndec (fun _h => ?_) (fun _h => ?_)) <;> (first | (exfalso; omega) | simp only [decide_eq_false _h] | simp only [decide_eq_true _h] | skip)) | ((first | with_reducible refine br_not (fun _h => ?_) (fun _h => ?_) | with_reducible refine br_var (fun _h => ?_) (fun _h => ?_)) <;> (try simp only [_h])) | ((with_reducible apply call_D (d1)); (focus (simp (disch := omega) only [go_sem, Nat.reduceEqDiff, ↓reduceIte, reduceCtorEq, Nat.reduceAdd, Nat.reduceMul, Int.reduceToNat, List.reduceReplicate, Nat.reduceLeDiff, Nat.reduceLT, Int.reduceLT, Int.reduceLE, Int.reduceEq, eg]; (try rfl); done))) | ((with_reducible apply call (c5)); (focus (simp (disch := omega) only [go_sem, Nat.reduceEqDiff, ↓reduceIte, reduceCtorEq, Nat.reduceAdd, Nat.reduceMul, Int.reduceToNat, List.reduceReplicate, Nat.reduceLeDiff, Nat.reduceLT, Int.reduceLT, Int.reduceLE, Int.reduceEq, eg]; (try rfl); done))) | fail)
            · rw [hJ, if_pos _h]
            · refine ⟨j + 1, ⟨by omega, by omega, ?_⟩, by omega⟩
              rw [hJ, if_neg _h]
          · rw [drop_end (l := l) (by omega), grFind] at hJ
            rw [hJ]
            repeat' (first | (with_reducible refine in_seq ?_) | (with_reducible refine in_reg ?_) | (with_reducible refine in_block ?_) | (with_reducible refine in_cond ?_) | (with_reducible refine in_ret ?_) | (with_reducible refine in_skip ?_) | (simp (disch := omega) only [go_sem, Nat.reduceEqDiff, ↓reduceIte, reduceCtorEq, Nat.reduceAdd, Nat.reduceMul, Int.reduceToNat, List.reduceReplicate, Nat.reduceLeDiff, Nat.reduceLT, Int.reduceLT, Int.reduceLE, Int.reduceEq]) | (with_reducible refine giv_intro fun _h => ?_) | (with_reducible refine alt_intro ?_ (fun _h => ?_)) | ((first | with_reducible refine br_dec (fun _h => ?_) (fun _h => ?_) | with_reducible refine br_ndec (fun _h => ?_) (fun _h => ?_)) <;> (first | (exfalso; omega) | simp only [decide_eq_false _h] | simp only [decide_eq_true _h] | skip)) | ((first | with_reducible refine br_not (fun _h => ?_) (fun _h => ?_) | with_reducible refine br_var (fun _h => ?_) (fun _h => ?_)) <;> (try simp only [_h])) | ((with_reducible apply call (k9)); (focus (simp (disch := omega) only [go_sem, Nat.reduceEqDiff, ↓reduceIte, reduceCtorEq, Nat.reduceAdd, Nat.reduceMul, Int.reduceToNat, List.reduceReplicate, Nat.reduceLeDiff, Nat.reduceLT, Int.reduceLT, Int.reduceLE, Int.reduceEq]; (try rfl); done))) | fail)
        · omega
      · rw [if_pos (by omega)] at t2
        rw [t2, if_neg (by omega)]
        repeat' (first | (with_reducible refine in_seq ?_) | (with_reducible refine in_reg ?_) | (with_reducible refine in_block ?_) | (with_reducible refine in_cond ?_) | (with_reducible refine in_ret ?_) | (with_reducible refine in_skip ?_) | (simp (disch := omega) only [go_sem, Nat.reduceEqDiff, ↓reduceIte, reduceCtorEq, Nat.reduceAdd, Nat.reduceMul, Int.reduceToNat, List.reduceReplicate, Nat.reduceLeDiff, Nat.reduceLT, Int.reduceLT, Int.reduceLE, Int.reduceEq]) | (with_reducible refine giv_intro fun _h => ?_) | (with_reducible refine alt_intro ?_ (fun _h => ?_)) | ((first | with_reducible refine br_dec (fun _h => ?_) (fun _h => ?_) | with_reducible refine br_ndec (fun _h => ?_) (fun _h => ?_)) <;> (first | (exfalso; omega) | simp only [decide_eq_false _h] | simp only [decide_eq_true _h] | skip)) | ((first | with_reducible refine br_not (fun _h => ?_) (fun _h => ?_) | with_reducible refine br_var (fun _h => ?_) (fun _h => ?_)) <;> (try simp only [_h])) | ((with_reducible apply call (k9)); (focus (simp (disch := omega) only [go_sem, Nat.reduceEqDiff, ↓reduceIte, reduceCtorEq, Nat.reduceAdd, Nat.reduceMul, Int.reduceToNat, List.reduceReplicate, Nat.reduceLeDiff, Nat.reduceLT, Int.reduceLT, Int.reduceLE, Int.reduceEq]; (try rfl); done))) | fail)
  · have e : gradeT l s w = ([], false, gradeE0 l s w) := by rw [gradeT, if_pos h]
    rw [e]
    rw [show firstE [grdErr l, sndErr s, wordsErr [w]] = gradeE0 l s w from rfl] at c4
    (refine fn_look s36_ok (by simp) (by intro k; simp only [go_sem, Nat.reduceEqDiff, ↓reduceIte, reduceCtorEq, Nat.reduceAdd, Nat.reduceMul, Int.reduceToNat, List.reduceReplicate, Nat.reduceLeDiff, Nat.reduceLT, Int.reduceLT, Int.reduceLE, Int.reduceEq]) fun S hS => cwp_sound _ _ _ _ ?_; simp (disch := omega) only [s36, go_sem, Nat.reduceEqDiff, ↓reduceIte, reduceCtorEq, Nat.reduceAdd, Nat.reduceMul, Int.reduceToNat, List.reduceReplicate, Nat.reduceLeDiff, Nat.reduceLT, Int.reduceLT, Int.reduceLE, Int.reduceEq])
    repeat' (first | (with_reducible refine in_seq ?_) | (with_reducible refine in_reg ?_) | (with_reducible refine in_block ?_) | (with_reducible refine in_cond ?_) | (with_reducible refine in_ret ?_) | (with_reducible refine in_skip ?_) | (simp (disch := omega) only [go_sem, Nat.reduceEqDiff, ↓reduceIte, reduceCtorEq, Nat.reduceAdd, Nat.reduceMul, Int.reduceToNat, List.reduceReplicate, Nat.reduceLeDiff, Nat.reduceLT, Int.reduceLT, Int.reduceLE, Int.reduceEq]) | (with_reducible refine giv_intro fun _h => ?_) | (with_reducible refine alt_intro ?_ (fun _h => ?_)) | ((first | with_reducible refine br_dec (fun _h => ?_) (fun _h => ?_) | with_reducible refine br_ndec (fun _h => ?_) (fun _h => ?_)) <;> (first | (exfalso; omega) | simp only [decide_eq_false _h] | simp only [decide_eq_true _h] | skip)) | ((first | with_reducible refine br_not (fun _h => ?_) (fun _h => ?_) | with_reducible refine br_var (fun _h => ?_) (fun _h => ?_)) <;> (try simp only [_h])) | ((with_reducible apply call_D (c1)); (focus (simp (disch := omega) only [go_sem, Nat.reduceEqDiff, ↓reduceIte, reduceCtorEq, Nat.reduceAdd, Nat.reduceMul, Int.reduceToNat, List.reduceReplicate, Nat.reduceLeDiff, Nat.reduceLT, Int.reduceLT, Int.reduceLE, Int.reduceEq]; (try rfl); done))) | ((with_reducible apply call_D (c2)); (focus (simp (disch := omega) only [go_sem, Nat.reduceEqDiff, ↓reduceIte, reduceCtorEq, Nat.reduceAdd, Nat.reduceMul, Int.reduceToNat, List.reduceReplicate, Nat.reduceLeDiff, Nat.reduceLT, Int.reduceLT, Int.reduceLE, Int.reduceEq]; (try rfl); done))) | ((with_reducible apply call_D (c3)); (focus (simp (disch := omega) only [go_sem, Nat.reduceEqDiff, ↓reduceIte, reduceCtorEq, Nat.reduceAdd, Nat.reduceMul, Int.reduceToNat, List.reduceReplicate, Nat.reduceLeDiff, Nat.reduceLT, Int.reduceLT, Int.reduceLE, Int.reduceEq]; (try rfl); done))) | ((with_reducible apply call_D (c4)); (focus (simp (disch := omega) only [go_sem, Nat.reduceEqDiff, ↓reduceIte, reduceCtorEq, Nat.reduceAdd, Nat.reduceMul, Int.reduceToNat, List.reduceReplicate, Nat.reduceLeDiff, Nat.reduceLT, Int.reduceLT, Int.reduceLE, Int.reduceEq]; (try rfl); done))) | fail)
    rfl

/-- ablaut/ablautref13.Grade: 3 parameters, 0 captured -/
def s37 : SC := .seq (.reg [⟨(some 4), .box 37 1 (.t 1), none⟩,
     ⟨(some 6), .mv (.c (.slice none 0 0)), none⟩,
     ⟨(some 7), .mv (.c (.bool false)), none⟩,
     ⟨(some 8), .mv (.c (.int .i64 0)), none⟩])
  (.seq (.seq (.reg [⟨(some 17), .mv (.t 0), none⟩,
       ⟨(some 18), .call (.f 80) [(.t 17)], none⟩,
       ⟨(some 9), .mv (.t 18), none⟩])
    (.seq (.reg [⟨(some 19), .mv (.t 9), none⟩,
        ⟨(some 20), .bin .neq (.t 19) (.c (.int .i64 0)), none⟩])
     (.cond (.t 20) (.seq (.reg [⟨(some 21), .mv (.t 9), none⟩,
          ⟨(some 6), .mv (.c (.slice none 0 0)), none⟩,
          ⟨(some 7), .mv (.c (.bool false)), none⟩,
          ⟨(some 8), .mv (.t 21), none⟩])
       (.ret)) (.skip))))
   (.seq (.seq (.reg [⟨(some 22), .load (some 1) (.t 4), none⟩,
        ⟨(some 23), .mv (.t 2), none⟩,
        ⟨(some 24), .buildSl 22 1 1 [(.slice none 0 0)] [(0, 1, (.t 23))], none⟩,
        ⟨(some 25), .call (.f 65) [(.t 22), (.t 24)], none⟩,
        ⟨(some 10), .mv (.t 25), none⟩])
     (.seq (.reg [⟨(some 26), .mv (.t 10), none⟩,
         ⟨(some 27), .bin .neq (.t 26) (.c (.int .i64 0)), none⟩])
      (.cond (.t 27) (.seq (.reg [⟨(some 28), .mv (.t 10), none⟩,
           ⟨(some 6), .mv (.c (.slice none 0 0)), none⟩,
           ⟨(some 7), .mv (.c (.bool false)), none⟩,
           ⟨(some 8), .mv (.t 28), none⟩])
        (.ret)) (.skip))))
    (.seq (.reg [⟨(some 30), .load (some 1) (.t 4), none⟩,
        ⟨(some 31), .mv (.t 2), none⟩,
        ⟨(some 32), .call (.f 81) [(.t 30), (.t 31)], none⟩,
        ⟨(some 29), .mv (.t 32), none⟩,
        ⟨(some 33), .ext (.t 29) 0, none⟩,
        ⟨(some 34), .ext (.t 29) 1, none⟩,
        ⟨(some 35), .ext (.t 29) 2, none⟩,
        ⟨(some 11), .mv (.t 33), none⟩,
        ⟨(some 12), .mv (.t 34), none⟩,
        ⟨(some 13), .mv (.t 35), none⟩])
     (.seq (.seq (.reg [⟨(some 14), .mv (.c (.int .i64 0)), none⟩])
       (.block 0 (.loop (.seq (.seq (.reg [⟨(some 36), .mv (.t 14), none⟩,
              ⟨(some 37), .mv (.t 0), none⟩,
              ⟨(some 38), .lenL (.t 37), none⟩,
              ⟨(some 39), .bin .lss (.t 36) (.t 38), none⟩,
              ⟨(some 40), .mv (.t 39), none⟩,
              ⟨(some 41), .mv (.t 13), some (40, true)⟩,
              ⟨(some 42), .pick (.t 40) (.t 41) (.c (.bool false)), none⟩])
           (.cond (.t 42) (.skip) (.exit 0)))
          (.seq (.block 1 (.seq (.regD [⟨(some 45), .mv (.t 0), none⟩,
                ⟨(some 46), .mv (.t 14), none⟩,
                ⟨(some 47), .iaddr 2 (.t 45) (.t 46), none⟩,
                ⟨(some 48), .faddr 0 (.t 47), none⟩,
                ⟨(some 49), .load none (.t 48), none⟩,
                ⟨(some 50), .mv (.t 2), none⟩,
                ⟨(some 51), .mv (.t 11), none⟩,
                ⟨(some 52), .mv (.t 12), none⟩,
                ⟨(some 53), .sl 1 (.t 50) (some (.t 51)) (some (.t 52)), none⟩,
                ⟨(some 54), .call (.f 22) [(.t 49), (.t 53)], none⟩])
             (.cond (.t 54) (.seq (.regD [⟨(some 56), .mv (.t 2), none⟩,
                  ⟨(some 57), .mv (.t 11), none⟩,
                  ⟨(some 58), .sl 1 (.t 56) none (some (.t 57)), none⟩,
                  ⟨(some 59), .mv (.t 0), none⟩,
                  ⟨(some 60), .mv (.t 14), none⟩,
                  ⟨(some 61), .iaddr 2 (.t 59) (.t 60), none⟩,
                  ⟨(some 62), .faddr 1 (.t 61), none⟩,
                  ⟨(some 63), .load none (.t 62), none⟩,
                  ⟨(some 64), .call (.f 28) [(.t 58), (.t 63)], none⟩,
                  ⟨(some 65), .mv (.t 2), none⟩,
                  ⟨(some 66), .mv (.t 12), none⟩,
                  ⟨(some 67), .sl 1 (.t 65) (some (.t 66)) none, none⟩,
                  ⟨(some 68), .call (.f 28) [(.t 64), (.t 67)], none⟩,
                  ⟨(some 69), .call (.f 71) [(.t 68)], none⟩,
                  ⟨(some 55), .mv (.t 69), none⟩,
                  ⟨(some 70), .ext (.t 55) 0, none⟩,
                  ⟨(some 71), .ext (.t 55) 1, none⟩,
                  ⟨(some 15), .mv (.t 70), none⟩,
                  ⟨(some 16), .mv (.t 71), none⟩])
               (.seq (.reg [⟨(some 72), .mv (.t 15), none⟩,
                   ⟨(some 73), .mv (.t 16), none⟩,
                   ⟨(some 74), .bin .eql (.t 73) (.c (.int .i64 0)), none⟩,
                   ⟨(some 75), .mv (.t 16), none⟩,
                   ⟨(some 6), .mv (.t 72), none⟩,
                   ⟨(some 7), .mv (.t 74), none⟩,
                   ⟨(some 8), .mv (.t 75), none⟩])
                (.ret))) (.skip))))
           (.reg [⟨(some 43), .mv (.t 14), none⟩,
              ⟨(some 44), .bin .add (.t 43) (.c (.int .i64 1)), none⟩,
              ⟨(some 14), .mv (.t 44), none⟩]))))))
      (.seq (.reg [⟨(some 76), .mv (.t 2), none⟩,
          ⟨(some 77), .call (.f 28) [(.t 76), (.c (.slice none 0 0))], none⟩,
          ⟨(some 6), .mv (.t 77), none⟩,
          ⟨(some 7), .mv (.c (.bool false)), none⟩,
          ⟨(some 8), .mv (.c (.int .i64 0)), none⟩])
       (.ret))))))
theorem s37_ok : lookF Try.prog 37 = some (s37, 78, [.tmp 6, .tmp 7, .tmp 8]) := by kernel_rfl
set_option maxHeartbeats 2000000 in
theorem rGrade_ok (l : List Grade) (s : List Sound) (w : List Str) : Fn P 37 [sl l, sndA s, sl w] (tri (gradeT l s w)) := by
  have c1 := rGrades_ok l
  have c2 := rAsked_ok s [w]
  by_cases h : gradeE0 l s w = 0
  · obtain ⟨h1, h2, h3⟩ := three_zero h
    have hw := wordErr_len (wordsErr_one h3)
    have hg := grd_good h1
    have hgT : gradeT l s w = if 0 ≤ (st2 (vowR s) w w.length).1 then grFind w (st2 (vowR s) w w.length).1 (st2 (vowR s) w w.length).2 l else (w, false, 0) := by rw [gradeT, if_neg (by omega)]
    rw [h1] at c1
    rw [show firstE [sndErr s, wordsErr [w]] = 0 by rw [firstTwo, if_neg (by omega)]; exact h3] at c2
    rw [hgT]
    have hr := st2_range (vowR s) w w.length
    have c3 := stretch_ok s w (by omega)
    have k9 := join_ok w [] (by simp; omega)
    rw [List.append_nil] at k9
    generalize ha : (st2 (vowR s) w w.length).1 = a at *
    generalize hb : (st2 (vowR s) w w.length).2 = b at *
    by_cases ha0 : 0 ≤ a
    · rw [if_pos ha0]
      rw [decide_eq_true ha0] at c3
      have e3 : (a + 1).toNat ≤ b.toNat := by omega
      have eg : List.take (b.toNat - (a + 1).toNat) (List.drop (a + 1).toNat w) = grMid w a b := rfl
      have e6 : List.take (w.length - b.toNat) (List.drop b.toNat w) = List.drop b.toNat w := List.take_of_length_le (by simp)
      have e7 : ∀ n, List.take (n - 0) w = List.take n w := fun n => rfl
      (refine fn_look s37_ok (by simp) (by intro k; simp only [go_sem, Nat.reduceEqDiff, ↓reduceIte, reduceCtorEq, Nat.reduceAdd, Nat.reduceMul, Int.reduceToNat, List.reduceReplicate, Nat.reduceLeDiff, Nat.reduceLT, Int.reduceLT, Int.reduceLE, Int.reduceEq]) fun S hS => cwp_sound _ _ _ _ ?_; simp (disch := omega) only [s37, go_sem, Nat.reduceEqDiff, ↓reduceIte, reduceCtorEq, Nat.reduceAdd, Nat.reduceMul, Int.reduceToNat, List.reduceReplicate, Nat.reduceLeDiff, Nat.reduceLT, Int.reduceLT, Int.reduceLE, Int.reduceEq])
      repeat' (first | (with_reducible refine in_seq ?_) | (with_reducible refine in_reg ?_) | (with_reducible refine in_block ?_) | (with_reducible refine in_cond ?_) | (with_reducible refine in_ret ?_) | (with_reducible refine in_skip ?_) | (simp (disch := omega) only [go_sem, Nat.reduceEqDiff, ↓reduceIte, reduceCtorEq, Nat.reduceAdd, Nat.reduceMul, Int.reduceToNat, List.reduceReplicate, Nat.reduceLeDiff, Nat.reduceLT, Int.reduceLT, Int.reduceLE, Int.reduceEq]) | (with_reducible refine giv_intro fun _h => ?_) | (with_reducible refine alt_intro ?_ (fun _h => ?_)) | ((first | with_reducible refine br_dec (fun _h => ?_) (fun _h => ?_) | with_reducible refine br_ndec (fun _h => ?_) (fun _h => ?_)) <;> (first | (exfalso; omega) | simp only [decide_eq_false _h] | simp only [decide_eq_true _h] | skip)) | ((first | with_reducible refine br_not (fun _h => ?_) (fun _h => ?_) | with_reducible refine br_var (fun _h => ?_) (fun _h => ?_)) <;> (try simp only [_h])) | ((with_reducible apply call (c1)); (focus (simp (disch := omega) only [go_sem, Nat.reduceEqDiff, ↓reduceIte, reduceCtorEq, Nat.reduceAdd, Nat.reduceMul, Int.reduceToNat, List.reduceReplicate, Nat.reduceLeDiff, Nat.reduceLT, Int.reduceLT, Int.reduceLE, Int.reduceEq]; (try rfl); done))) | ((with_reducible apply call_lend (c2)); (focus (simp (disch := omega) only [go_sem, Nat.reduceEqDiff, ↓reduceIte, reduceCtorEq, Nat.reduceAdd, Nat.reduceMul, Int.reduceToNat, List.reduceReplicate, Nat.reduceLeDiff, Nat.reduceLT, Int.reduceLT, Int.reduceLE, Int.reduceEq]; (try rfl); done)); (focus rfl)) | ((with_reducible apply call (c3)); (focus (simp (disch := omega) only [go_sem, Nat.reduceEqDiff, ↓reduceIte, reduceCtorEq, Nat.reduceAdd, Nat.reduceMul, Int.reduceToNat, List.reduceReplicate, Nat.reduceLeDiff, Nat.reduceLT, Int.reduceLT, Int.reduceLE, Int.reduceEq]; (try rfl); done))) | fail)
      (refine loopC hS [0, 2, 11, 12, 13] (by simp only [go_sem, Nat.reduceEqDiff, ↓reduceIte, reduceCtorEq, Nat.reduceAdd, Nat.reduceMul, Int.reduceToNat, List.reduceReplicate, Nat.reduceLeDiff, Nat.reduceLT, Int.reduceLT, Int.reduceLE, Int.reduceEq]; try rfl) (fun (j : Nat) => [(14, intA j)]) (fun (j : Nat) => [none, none]) (fun (j : Nat) => j ≤ l.length ∧ grFind w a b l = grFind w a b (l.drop j)) (fun (j : Nat) => l.length - j) (0) ?h03 ?hn3 ?rd3; case hn3 => (intro s; first | rfl | (rcases s with ⟨_, _⟩; rfl) | (rcases s with ⟨_, _, _⟩; rfl) | (rcases s with ⟨_, _, _, _⟩; rfl) | (rcases s with ⟨_, _, _, _, _⟩; rfl)))
      · simp (disch := omega) only [go_sem, Nat.reduceEqDiff, ↓reduceIte, reduceCtorEq, Nat.reduceAdd, Nat.reduceMul, Int.reduceToNat, List.reduceReplicate, Nat.reduceLeDiff, Nat.reduceLT, Int.reduceLT, Int.reduceLE, Int.reduceEq]; simp
      rintro j ⟨hj, hJ⟩
      replace hj : j ≤ l.length := hj
      replace hJ : grFind w a b l = grFind w a b (l.drop j) := hJ
      by_cases hjl : j < l.length
      · rw [grFind_step hjl] at hJ
        have hgj := hg.2 _ (nth_mem hjl)
        have d1 := Same_ok (nth l j).1 (grMid w a b)
        have d2 := join_ok (w.take (a + 1).toNat) (nth l j).2 (by simp; omega)
        have d3 := join_ok (w.take (a + 1).toNat ++ (nth l j).2) (w.drop b.toNat) (by simp; omega)
        have ej : (w.take (a + 1).toNat ++ (nth l j).2) ++ w.drop b.toNat = turnL w (a + 1).toNat b.toNat (nth l j).2 := by simp [turnL]
        rw [ej] at d3
        have d4 := short_ok (turnL w (a + 1).toNat b.toNat (nth l j).2)
        repeat' (first | (with_reducible refine in_seq ?_) | (with_reducible refine in_reg ?_) | (with_reducible refine in_block ?_) | (with_reducible refine in_cond ?_) | (with_reducible refine in_ret ?_) | (with_reducible refine in_skip ?_) | (simp (disch := omega) only [go_sem, Nat.reduceEqDiff, ↓reduceIte, reduceCtorEq, Nat.reduceAdd, Nat.reduceMul, Int.reduceToNat, List.reduceReplicate, Nat.reduceLeDiff, Nat.reduceLT, Int.reduceLT, Int.reduceLE, Int.reduceEq, eg, e6, e7]) | (with_reducible refine giv_intro fun _h => ?_) | (with_reducible refine alt_intro ?_ (fun _h => ?_)) | ((first | with_reducible refine br_dec (fun _h => ?_) (fun _h => ?_) | with_reducible refine br_ndec (fun _h => ?_) (fun _h => ?_)) <;> (first | (exfalso; omega) | simp only [decide_eq_false _h] | simp only [decide_eq_true _h] | skip)) | ((first | with_reducible refine br_not (fun _h => ?_) (fun _h => ?_) | with_reducible refine br_var (fun _h => ?_) (fun _h => ?_)) <;> (try simp only [_h])) | ((with_reducible apply call_D (d1)); (focus (simp (disch := omega) only [go_sem, Nat.reduceEqDiff, ↓reduceIte, reduceCtorEq, Nat.reduceAdd, Nat.reduceMul, Int.reduceToNat, List.reduceReplicate, Nat.reduceLeDiff, Nat.reduceLT, Int.reduceLT, Int.reduceLE, Int.reduceEq, eg, e6, e7]; (try rfl); done))) | ((with_reducible apply call_D (d2)); (focus (simp (disch := omega) only [go_sem, Nat.reduceEqDiff, ↓reduceIte, reduceCtorEq, Nat.reduceAdd, Nat.reduceMul, Int.reduceToNat, List.reduceReplicate, Nat.reduceLeDiff, Nat.reduceLT, Int.reduceLT, Int.reduceLE, Int.reduceEq, eg, e6, e7]; (try rfl); done))) | ((with_reducible apply call_D (d3)); (focus (simp (disch := omega) only [go_sem, Nat.reduceEqDiff, ↓reduceIte, reduceCtorEq, Nat.reduceAdd, Nat.reduceMul, Int.reduceToNat, List.reduceReplicate, Nat.reduceLeDiff, Nat.reduceLT, Int.reduceLT, Int.reduceLE, Int.reduceEq, eg, e6, e7]; (try rfl); done))) | ((with_reducible apply call_D (d4)); (focus (simp (disch := omega) only [go_sem, Nat.reduceEqDiff, ↓reduceIte, reduceCtorEq, Nat.reduceAdd, Nat.reduceMul, Int.reduceToNat, List.reduceReplicate, Nat.reduceLeDiff, Nat.reduceLT, Int.reduceLT, Int.reduceLE, Int.reduceEq, eg, e6, e7]; (try rfl); done))) | fail)
        · rw [hJ, if_pos _h]
        · refine ⟨j + 1, ⟨by omega, by omega, ?_⟩, by omega⟩
          rw [hJ, if_neg _h]
      · rw [drop_end (l := l) (by omega), grFind] at hJ
        rw [hJ]
        repeat' (first | (with_reducible refine in_seq ?_) | (with_reducible refine in_reg ?_) | (with_reducible refine in_block ?_) | (with_reducible refine in_cond ?_) | (with_reducible refine in_ret ?_) | (with_reducible refine in_skip ?_) | (simp (disch := omega) only [go_sem, Nat.reduceEqDiff, ↓reduceIte, reduceCtorEq, Nat.reduceAdd, Nat.reduceMul, Int.reduceToNat, List.reduceReplicate, Nat.reduceLeDiff, Nat.reduceLT, Int.reduceLT, Int.reduceLE, Int.reduceEq]) | (with_reducible refine giv_intro fun _h => ?_) | (with_reducible refine alt_intro ?_ (fun _h => ?_)) | ((first | with_reducible refine br_dec (fun _h => ?_) (fun _h => ?_) | with_reducible refine br_ndec (fun _h => ?_) (fun _h => ?_)) <;> (first | (exfalso; omega) | simp only [decide_eq_false _h] | simp only [decide_eq_true _h] | skip)) | ((first | with_reducible refine br_not (fun _h => ?_) (fun _h => ?_) | with_reducible refine br_var (fun _h => ?_) (fun _h => ?_)) <;> (try simp only [_h])) | ((with_reducible apply call (k9)); (focus (simp (disch := omega) only [go_sem, Nat.reduceEqDiff, ↓reduceIte, reduceCtorEq, Nat.reduceAdd, Nat.reduceMul, Int.reduceToNat, List.reduceReplicate, Nat.reduceLeDiff, Nat.reduceLT, Int.reduceLT, Int.reduceLE, Int.reduceEq]; (try rfl); done))) | fail)
    · rw [if_neg ha0]
      rw [decide_eq_false ha0] at c3
      (refine fn_look s37_ok (by simp) (by intro k; simp only [go_sem, Nat.reduceEqDiff, ↓reduceIte, reduceCtorEq, Nat.reduceAdd, Nat.reduceMul, Int.reduceToNat, List.reduceReplicate, Nat.reduceLeDiff, Nat.reduceLT, Int.reduceLT, Int.reduceLE, Int.reduceEq]) fun S hS => cwp_sound _ _ _ _ ?_; simp (disch := omega) only [s37, go_sem, Nat.reduceEqDiff, ↓reduceIte, reduceCtorEq, Nat.reduceAdd, Nat.reduceMul, Int.reduceToNat, List.reduceReplicate, Nat.reduceLeDiff, Nat.reduceLT, Int.reduceLT, Int.reduceLE, Int.reduceEq])
      repeat' (first | (with_reducible refine in_seq ?_) | (with_reducible refine in_reg ?_) | (with_reducible refine in_block ?_) | (with_reducible refine in_cond ?_) | (with_reducible refine in_ret ?_) | (with_reducible refine in_skip ?_) | (simp (disch := omega) only [go_sem, Nat.reduceEqDiff, ↓reduceIte, reduceCtorEq, Nat.reduceAdd, Nat.reduceMul, Int.reduceToNat, List.reduceReplicate, Nat.reduceLeDiff, Nat.reduceLT, Int.reduceLT, Int.reduceLE, Int.reduceEq]) | (with_reducible refine giv_intro fun _h => ?_) | (with_reducible refine alt_intro ?_ (fun _h => ?_)) | ((first | with_reducible refine br_dec (fun _h => ?_) (fun _h => ?_) | with_reducible refine br_ndec (fun _h => ?_) (fun _h => ?_)) <;> (first | (exfalso; omega) | simp only [decide_eq_false _h] | simp only [decide_eq_true _h] | skip)) | ((first | with_reducible refine br_not (fun _h => ?_) (fun _h => ?_) | with_reducible refine br_var (fun _h => ?_) (fun _h => ?_)) <;> (try simp only [_h])) | ((with_reducible apply call (c1)); (focus (simp (disch := omega) only [go_sem, Nat.reduceEqDiff, ↓reduceIte, reduceCtorEq, Nat.reduceAdd, Nat.reduceMul, Int.reduceToNat, List.reduceReplicate, Nat.reduceLeDiff, Nat.reduceLT, Int.reduceLT, Int.reduceLE, Int.reduceEq]; (try rfl); done))) | ((with_reducible apply call_lend (c2)); (focus (simp (disch := omega) only [go_sem, Nat.reduceEqDiff, ↓reduceIte, reduceCtorEq, Nat.reduceAdd, Nat.reduceMul, Int.reduceToNat, List.reduceReplicate, Nat.reduceLeDiff, Nat.reduceLT, Int.reduceLT, Int.reduceLE, Int.reduceEq]; (try rfl); done)); (focus rfl)) | ((with_reducible apply call (c3)); (focus (simp (disch := omega) only [go_sem, Nat.reduceEqDiff, ↓reduceIte, reduceCtorEq, Nat.reduceAdd, Nat.reduceMul, Int.reduceToNat, List.reduceReplicate, Nat.reduceLeDiff, Nat.reduceLT, Int.reduceLT, Int.reduceLE, Int.reduceEq]; (try rfl); done))) | fail)
      (refine loopC hS [0, 2, 11, 12, 13] (by simp only [go_sem, Nat.reduceEqDiff, ↓reduceIte, reduceCtorEq, Nat.reduceAdd, Nat.reduceMul, Int.reduceToNat, List.reduceReplicate, Nat.reduceLeDiff, Nat.reduceLT, Int.reduceLT, Int.reduceLE, Int.reduceEq]; try rfl) (fun (j : Nat) => [(14, intA j)]) (fun (j : Nat) => [none, none]) (fun (j : Nat) => j = 0) (fun (j : Nat) => 1) (0) ?h04 ?hn4 ?rd4; case hn4 => (intro s; first | rfl | (rcases s with ⟨_, _⟩; rfl) | (rcases s with ⟨_, _, _⟩; rfl) | (rcases s with ⟨_, _, _, _⟩; rfl) | (rcases s with ⟨_, _, _, _, _⟩; rfl)))
      · simp (disch := omega) only [go_sem, Nat.reduceEqDiff, ↓reduceIte, reduceCtorEq, Nat.reduceAdd, Nat.reduceMul, Int.reduceToNat, List.reduceReplicate, Nat.reduceLeDiff, Nat.reduceLT, Int.reduceLT, Int.reduceLE, Int.reduceEq]
      rintro j hj
      replace hj : j = 0 := hj
      subst hj
      repeat' (first | (with_reducible refine in_seq ?_) | (with_reducible refine in_reg ?_) | (with_reducible refine in_block ?_) | (with_reducible refine in_cond ?_) | (with_reducible refine in_ret ?_) | (with_reducible refine in_skip ?_) | (simp (disch := omega) only [go_sem, Nat.reduceEqDiff, ↓reduceIte, reduceCtorEq, Nat.reduceAdd, Nat.reduceMul, Int.reduceToNat, List.reduceReplicate, Nat.reduceLeDiff, Nat.reduceLT, Int.reduceLT, Int.reduceLE, Int.reduceEq]) | (with_reducible refine giv_intro fun _h => ?_) | (with_reducible refine alt_intro ?_ (fun _h => ?_)) | ((first | with_reducible refine br_dec (fun _h => ?_) (fun _h => ?_) | with_reducible refine br_ndec (fun _h => ?_) (fun _h => ?_)) <;> (first | (exfalso; omega) | simp only [decide_eq_false _h] | simp only [decide_eq_true _h] | skip)) | ((first | with_reducible refine br_not (fun _h => ?_) (fun _h => ?_) | with_reducible refine br_var (fun _h => ?_) (fun _h => ?_)) <;> (try simp only [_h])) | ((with_reducible apply call (k9)); (focus (simp (disch := omega) only [go_sem, Nat.reduceEqDiff, ↓reduceIte, reduceCtorEq, Nat.reduceAdd, Nat.reduceMul, Int.reduceToNat, List.reduceReplicate, Nat.reduceLeDiff, Nat.reduceLT, Int.reduceLT, Int.reduceLE, Int.reduceEq]; (try rfl); done))) | fail)
  · have e : gradeT l s w = ([], false, gradeE0 l s w) := by rw [gradeT, if_pos h]
    rw [e]
    have eg : gradeE0 l s w = if grdErr l ≠ 0 then grdErr l else firstE [sndErr s, wordsErr [w]] := rfl
    rw [eg] at h ⊢
    generalize firstE [sndErr s, wordsErr [w]] = e2 at *
    generalize grdErr l = e1 at *
    by_cases h3 : e1 = 0
    · rw [if_neg (by omega)] at h ⊢
      (refine fn_look s37_ok (by simp) (by intro k; simp only [go_sem, Nat.reduceEqDiff, ↓reduceIte, reduceCtorEq, Nat.reduceAdd, Nat.reduceMul, Int.reduceToNat, List.reduceReplicate, Nat.reduceLeDiff, Nat.reduceLT, Int.reduceLT, Int.reduceLE, Int.reduceEq]) fun S hS => cwp_sound _ _ _ _ ?_; simp (disch := omega) only [s37, go_sem, Nat.reduceEqDiff, ↓reduceIte, reduceCtorEq, Nat.reduceAdd, Nat.reduceMul, Int.reduceToNat, List.reduceReplicate, Nat.reduceLeDiff, Nat.reduceLT, Int.reduceLT, Int.reduceLE, Int.reduceEq])
      repeat' (first | (with_reducible refine in_seq ?_) | (with_reducible refine in_reg ?_) | (with_reducible refine in_block ?_) | (with_reducible refine in_cond ?_) | (with_reducible refine in_ret ?_) | (with_reducible refine in_skip ?_) | (simp (disch := omega) only [go_sem, Nat.reduceEqDiff, ↓reduceIte, reduceCtorEq, Nat.reduceAdd, Nat.reduceMul, Int.reduceToNat, List.reduceReplicate, Nat.reduceLeDiff, Nat.reduceLT, Int.reduceLT, Int.reduceLE, Int.reduceEq]) | (with_reducible refine giv_intro fun _h => ?_) | (with_reducible refine alt_intro ?_ (fun _h => ?_)) | ((first | with_reducible refine br_dec (fun _h => ?_) (fun _h => ?_) | with_reducible refine br_ndec (fun _h => ?_) (fun _h => ?_)) <;> (first | (exfalso; omega) | simp only [decide_eq_false _h] | simp only [decide_eq_true _h] | skip)) | ((first | with_reducible refine br_not (fun _h => ?_) (fun _h => ?_) | with_reducible refine br_var (fun _h => ?_) (fun _h => ?_)) <;> (try simp only [_h])) | ((with_reducible apply call (c1)); (focus (simp (disch := omega) only [go_sem, Nat.reduceEqDiff, ↓reduceIte, reduceCtorEq, Nat.reduceAdd, Nat.reduceMul, Int.reduceToNat, List.reduceReplicate, Nat.reduceLeDiff, Nat.reduceLT, Int.reduceLT, Int.reduceLE, Int.reduceEq]; (try rfl); done))) | ((with_reducible apply call_lend (c2)); (focus (simp (disch := omega) only [go_sem, Nat.reduceEqDiff, ↓reduceIte, reduceCtorEq, Nat.reduceAdd, Nat.reduceMul, Int.reduceToNat, List.reduceReplicate, Nat.reduceLeDiff, Nat.reduceLT, Int.reduceLT, Int.reduceLE, Int.reduceEq]; (try rfl); done)); (focus rfl)) | fail)
      rfl
    · rw [if_pos (by omega)] at h ⊢
      (refine fn_look s37_ok (by simp) (by intro k; simp only [go_sem, Nat.reduceEqDiff, ↓reduceIte, reduceCtorEq, Nat.reduceAdd, Nat.reduceMul, Int.reduceToNat, List.reduceReplicate, Nat.reduceLeDiff, Nat.reduceLT, Int.reduceLT, Int.reduceLE, Int.reduceEq]) fun S hS => cwp_sound _ _ _ _ ?_; simp (disch := omega) only [s37, go_sem, Nat.reduceEqDiff, ↓reduceIte, reduceCtorEq, Nat.reduceAdd, Nat.reduceMul, Int.reduceToNat, List.reduceReplicate, Nat.reduceLeDiff, Nat.reduceLT, Int.reduceLT, Int.reduceLE, Int.reduceEq])
      repeat' (first | (with_reducible refine in_seq ?_) | (with_reducible refine in_reg ?_) | (with_reducible refine in_block ?_) | (with_reducible refine in_cond ?_) | (with_reducible refine in_ret ?_) | (with_reducible refine in_skip ?_) | (simp (disch := omega) only [go_sem, Nat.reduceEqDiff, ↓reduceIte, reduceCtorEq, Nat.reduceAdd, Nat.reduceMul, Int.reduceToNat, List.reduceReplicate, Nat.reduceLeDiff, Nat.reduceLT, Int.reduceLT, Int.reduceLE, Int.reduceEq]) | (with_reducible refine giv_intro fun _h => ?_) | (with_reducible refine alt_intro ?_ (fun _h => ?_)) | ((first | with_reducible refine br_dec (fun _h => ?_) (fun _h => ?_) | with_reducible refine br_ndec (fun _h => ?_) (fun _h => ?_)) <;> (first | (exfalso; omega) | simp only [decide_eq_false _h] | simp only [decide_eq_true _h] | skip)) | ((first | with_reducible refine br_not (fun _h => ?_) (fun _h => ?_) | with_reducible refine br_var (fun _h => ?_) (fun _h => ?_)) <;> (try simp only [_h])) | ((with_reducible apply call (c1)); (focus (simp (disch := omega) only [go_sem, Nat.reduceEqDiff, ↓reduceIte, reduceCtorEq, Nat.reduceAdd, Nat.reduceMul, Int.reduceToNat, List.reduceReplicate, Nat.reduceLeDiff, Nat.reduceLT, Int.reduceLT, Int.reduceLE, Int.reduceEq]; (try rfl); done))) | fail)
      rfl
end Go.Proofs.Ytpfoflhhbkjngaa.Ev

/- Grams that are given: the reference's given and tally's grams, for all lists. -/
import Derived.Test.YtedbjmonfbpefaaFnQ
import Derived.Test.YtedbjmonfbpefaaFnR
set_option linter.unusedVariables false
set_option linter.unusedSimpArgs false
namespace Go.Proofs.Ytedbjmonfbpefaa.Ev
open Go Go.Proofs
def givenF (l : List Gram) : Int := if 200 < l.length ∨ l.any (fun g => anyLong g.1) = true then 3 else givenE l
theorem givenF_long {l : List Gram} (h : 200 < l.length) : givenF l = 3 := by rw [givenF, if_pos (.inl h)]
theorem givenF_any {l : List Gram} {i : Nat} (hi : i < l.length) (h : anyLong (nth l i).1 = true) : givenF l = 3 := by
  rw [givenF, if_pos (.inr (List.any_eq_true.2 ⟨_, nth_mem hi, h⟩))]
theorem givenF_e {l : List Gram} (h : l.length ≤ 200) (ha : ∀ j, j < l.length → anyLong (nth l j).1 = false) : givenF l = givenE l := by
  rw [givenF, if_neg]
  rintro (h1 | h1)
  · omega
  · obtain ⟨g, h2, h3⟩ := List.any_eq_true.1 h1
    obtain ⟨j, hj, rfl⟩ := List.getElem_of_mem h2
    have := ha j hj
    rw [nth_eq hj] at this
    rw [this] at h3; cases h3
/-- ablaut/ablautref27.given: 1 parameters, 0 captured -/
def s70 : SC := .seq (.reg [⟨(some 2), .mv (.c (.int .i64 0)), none⟩])
  (.seq (.seq (.reg [⟨(some 6), .mv (.t 0), none⟩,
       ⟨(some 7), .lenL (.t 6), none⟩,
       ⟨(some 8), .bin .gtr (.t 7) (.c (.int .i64 200)), none⟩])
    (.cond (.t 8) (.seq (.reg [⟨(some 2), .mv (.c (.int .i64 3)), none⟩])
      (.ret)) (.skip)))
   (.seq (.seq (.reg [⟨(some 3), .mv (.c (.int .i64 0)), none⟩])
     (.block 0 (.loop (.seq (.seq (.reg [⟨(some 9), .mv (.t 3), none⟩,
            ⟨(some 10), .mv (.t 0), none⟩,
            ⟨(some 11), .lenL (.t 10), none⟩,
            ⟨(some 12), .bin .lss (.t 9) (.t 11), none⟩])
         (.cond (.t 12) (.skip) (.exit 0)))
        (.seq (.block 1 (.seq (.reg [⟨(some 15), .mv (.t 0), none⟩,
              ⟨(some 16), .mv (.t 3), none⟩,
              ⟨(some 17), .iaddr 2 (.t 15) (.t 16), none⟩,
              ⟨(some 18), .faddr 0 (.t 17), none⟩,
              ⟨(some 19), .load none (.t 18), none⟩,
              ⟨(some 20), .call (.f 90) [(.t 19)], none⟩])
           (.cond (.t 20) (.seq (.reg [⟨(some 2), .mv (.c (.int .i64 3)), none⟩])
             (.ret)) (.skip))))
         (.reg [⟨(some 13), .mv (.t 3), none⟩,
            ⟨(some 14), .bin .add (.t 13) (.c (.int .i64 1)), none⟩,
            ⟨(some 3), .mv (.t 14), none⟩]))))))
    (.seq (.seq (.reg [⟨(some 4), .mv (.c (.int .i64 0)), none⟩])
      (.block 2 (.loop (.seq (.seq (.reg [⟨(some 21), .mv (.t 4), none⟩,
             ⟨(some 22), .mv (.t 0), none⟩,
             ⟨(some 23), .lenL (.t 22), none⟩,
             ⟨(some 24), .bin .lss (.t 21) (.t 23), none⟩])
          (.cond (.t 24) (.skip) (.exit 2)))
         (.seq (.block 3 (.seq (.reg [⟨(some 27), .mv (.t 0), none⟩,
               ⟨(some 28), .mv (.t 4), none⟩,
               ⟨(some 29), .iaddr 2 (.t 27) (.t 28), none⟩,
               ⟨(some 30), .faddr 0 (.t 29), none⟩,
               ⟨(some 31), .load none (.t 30), none⟩,
               ⟨(some 32), .lenL (.t 31), none⟩,
               ⟨(some 5), .mv (.t 32), none⟩])
            (.seq (.regD [⟨(some 33), .mv (.t 5), none⟩,
                ⟨(some 34), .bin .lss (.t 33) (.c (.int .i64 1)), none⟩,
                ⟨(some 35), .mv (.t 34), none⟩,
                ⟨(some 36), .mv (.t 5), some (35, false)⟩,
                ⟨(some 37), .bin .gtr (.t 36) (.c (.int .i64 4)), some (35, false)⟩,
                ⟨(some 38), .pick (.t 35) (.c (.bool true)) (.t 37), none⟩,
                ⟨(some 39), .mv (.t 38), none⟩,
                ⟨(some 40), .mv (.t 5), some (39, false)⟩,
                ⟨(some 41), .mv (.t 0), some (39, false)⟩,
                ⟨(some 42), .iaddr 2 (.t 41) (.c (.int .i64 0)), some (39, false)⟩,
                ⟨(some 43), .faddr 0 (.t 42), some (39, false)⟩,
                ⟨(some 44), .load none (.t 43), some (39, false)⟩,
                ⟨(some 45), .lenL (.t 44), some (39, false)⟩,
                ⟨(some 46), .bin .neq (.t 40) (.t 45), some (39, false)⟩,
                ⟨(some 47), .pick (.t 39) (.c (.bool true)) (.t 46), none⟩,
                ⟨(some 48), .mv (.t 47), none⟩,
                ⟨(some 49), .mv (.t 0), some (48, false)⟩,
                ⟨(some 50), .mv (.t 4), some (48, false)⟩,
                ⟨(some 51), .iaddr 2 (.t 49) (.t 50), some (48, false)⟩,
                ⟨(some 52), .faddr 1 (.t 51), some (48, false)⟩,
                ⟨(some 53), .load none (.t 52), some (48, false)⟩,
                ⟨(some 54), .bin .lss (.t 53) (.c (.int .i64 1)), some (48, false)⟩,
                ⟨(some 55), .pick (.t 48) (.c (.bool true)) (.t 54), none⟩,
                ⟨(some 56), .mv (.t 55), none⟩,
                ⟨(some 57), .mv (.t 0), some (56, false)⟩,
                ⟨(some 58), .mv (.t 4), some (56, false)⟩,
                ⟨(some 59), .iaddr 2 (.t 57) (.t 58), some (56, false)⟩,
                ⟨(some 60), .faddr 1 (.t 59), some (56, false)⟩,
                ⟨(some 61), .load none (.t 60), some (56, false)⟩,
                ⟨(some 62), .bin .gtr (.t 61) (.c (.int .i64 1000)), some (56, false)⟩,
                ⟨(some 63), .pick (.t 56) (.c (.bool true)) (.t 62), none⟩,
                ⟨(some 64), .mv (.t 63), none⟩,
                ⟨(some 65), .mv (.t 4), some (64, false)⟩,
                ⟨(some 66), .bin .gtr (.t 65) (.c (.int .i64 0)), some (64, false)⟩,
                ⟨(some 67), .mv (.t 66), some (64, false)⟩,
                ⟨(some 68), .mv (.t 0), some (67, true)⟩,
                ⟨(some 69), .mv (.t 4), some (67, true)⟩,
                ⟨(some 70), .bin .sub (.t 69) (.c (.int .i64 1)), some (67, true)⟩,
                ⟨(some 71), .iaddr 2 (.t 68) (.t 70), some (67, true)⟩,
                ⟨(some 72), .faddr 0 (.t 71), some (67, true)⟩,
                ⟨(some 73), .load none (.t 72), some (67, true)⟩,
                ⟨(some 74), .mv (.t 0), some (67, true)⟩,
                ⟨(some 75), .mv (.t 4), some (67, true)⟩,
                ⟨(some 76), .iaddr 2 (.t 74) (.t 75), some (67, true)⟩,
                ⟨(some 77), .faddr 0 (.t 76), some (67, true)⟩,
                ⟨(some 78), .load none (.t 77), some (67, true)⟩,
                ⟨(some 79), .call (.f 110) [(.t 73), (.t 78)], some (67, true)⟩,
                ⟨(some 80), .bin .geq (.t 79) (.c (.int .i64 0)), some (67, true)⟩,
                ⟨(some 81), .pick (.t 67) (.t 80) (.c (.bool false)), some (64, false)⟩,
                ⟨(some 82), .pick (.t 64) (.c (.bool true)) (.t 81), none⟩])
             (.cond (.t 82) (.seq (.reg [⟨(some 2), .mv (.c (.int .i64 1)), none⟩])
               (.ret)) (.skip)))))
          (.reg [⟨(some 25), .mv (.t 4), none⟩,
             ⟨(some 26), .bin .add (.t 25) (.c (.int .i64 1)), none⟩,
             ⟨(some 4), .mv (.t 26), none⟩]))))))
     (.seq (.reg [⟨(some 2), .mv (.c (.int .i64 0)), none⟩])
      (.ret)))))
theorem s70_ok : lookF Try.prog 70 = some (s70, 83, [.tmp 2]) := by kernel_rfl
set_option maxHeartbeats 1000000 in
theorem rGiven_ok (l : List Gram) (hs : ∀ g ∈ l, g.1.length ≤ 8796093022208) : Fn P 70 [sl l] (intA (givenF l)) := by
  (refine fn_look s70_ok (by simp) (by intro k; simp only [go_sem, Nat.reduceEqDiff, ↓reduceIte, reduceCtorEq, Nat.reduceAdd, Nat.reduceMul, Int.reduceToNat, List.reduceReplicate, Nat.reduceLeDiff, Nat.reduceLT, Int.reduceLT, Int.reduceLE, Int.reduceEq]) fun S hS => cwp_sound _ _ _ _ ?_; simp (disch := omega) only [s70, go_sem, Nat.reduceEqDiff, ↓reduceIte, reduceCtorEq, Nat.reduceAdd, Nat.reduceMul, Int.reduceToNat, List.reduceReplicate, Nat.reduceLeDiff, Nat.reduceLT, Int.reduceLT, Int.reduceLE, Int.reduceEq])
  repeat' (first | (with_reducible refine in_seq ?_) | (with_reducible refine in_reg ?_) | (with_reducible refine in_block ?_) | (with_reducible refine in_cond ?_) | (with_reducible refine in_ret ?_) | (with_reducible refine in_skip ?_) | (simp (disch := omega) only [go_sem, Nat.reduceEqDiff, ↓reduceIte, reduceCtorEq, Nat.reduceAdd, Nat.reduceMul, Int.reduceToNat, List.reduceReplicate, Nat.reduceLeDiff, Nat.reduceLT, Int.reduceLT, Int.reduceLE, Int.reduceEq]) | (with_reducible refine giv_intro fun _h => ?_) | (with_reducible refine alt_intro ?_ (fun _h => ?_)) | ((first | with_reducible refine br_dec (fun _h => ?_) (fun _h => ?_) | with_reducible refine br_ndec (fun _h => ?_) (fun _h => ?_)) <;> (first | (exfalso; omega) | simp only [decide_eq_false _h] | simp only [decide_eq_true _h] | skip)) | ((first | with_reducible refine br_not (fun _h => ?_) (fun _h => ?_) | with_reducible refine br_var (fun _h => ?_) (fun _h => ?_)) <;> (try simp only [_h])) | fail)
  · rw [givenF_long (by omega)]
  (refine loopC hS [0] (by simp only [go_sem, Nat.reduceEqDiff, ↓reduceIte, reduceCtorEq, Nat.reduceAdd, Nat.reduceMul, Int.reduceToNat, List.reduceReplicate, Nat.reduceLeDiff, Nat.reduceLT, Int.reduceLT, Int.reduceLE, Int.reduceEq]; try rfl) (fun (i : Nat) => [(3, intA i)]) (fun (i : Nat) => []) (fun (i : Nat) => i ≤ l.length ∧ ∀ j, j < i → anyLong (nth l j).1 = false) (fun (i : Nat) => l.length - i) (0) ?h01 ?hn1 ?rd1; case hn1 => (intro s; first | rfl | (rcases s with ⟨_, _⟩; rfl) | (rcases s with ⟨_, _, _⟩; rfl) | (rcases s with ⟨_, _, _, _⟩; rfl) | (rcases s with ⟨_, _, _, _, _⟩; rfl)))
  · simp (disch := omega) only [go_sem, Nat.reduceEqDiff, ↓reduceIte, reduceCtorEq, Nat.reduceAdd, Nat.reduceMul, Int.reduceToNat, List.reduceReplicate, Nat.reduceLeDiff, Nat.reduceLT, Int.reduceLT, Int.reduceLE, Int.reduceEq]; exact ⟨Nat.zero_le _, fun j hj => by omega⟩
  · rintro i ⟨h1, h0⟩
    replace h1 : i ≤ l.length := h1
    replace h0 : ∀ j, j < i → anyLong (nth l j).1 = false := h0
    by_cases hi : i < l.length
    · have c1 := rAnyLong_ok (nth l i).1 (hs _ (nth_mem hi))
      repeat' (first | (with_reducible refine in_seq ?_) | (with_reducible refine in_reg ?_) | (with_reducible refine in_block ?_) | (with_reducible refine in_cond ?_) | (with_reducible refine in_ret ?_) | (with_reducible refine in_skip ?_) | (simp (disch := omega) only [go_sem, Nat.reduceEqDiff, ↓reduceIte, reduceCtorEq, Nat.reduceAdd, Nat.reduceMul, Int.reduceToNat, List.reduceReplicate, Nat.reduceLeDiff, Nat.reduceLT, Int.reduceLT, Int.reduceLE, Int.reduceEq]) | (with_reducible refine giv_intro fun _h => ?_) | (with_reducible refine alt_intro ?_ (fun _h => ?_)) | ((first | with_reducible refine br_dec (fun _h => ?_) (fun _h => ?_) | with_reducible refine br_ndec (fun _h => ?_) (fun _h => ?_)) <;> (first | (exfalso; omega) | simp only [decide_eq_false _h] | simp only [decide_eq_true _h] | skip)) | ((first | with_reducible refine br_not (fun _h => ?_) (fun _h => ?_) | with_reducible refine br_var (fun _h => ?_) (fun _h => ?_)) <;> (try simp only [_h])) | ((with_reducible apply call (c1)); (focus (simp (disch := omega) only [go_sem, Nat.reduceEqDiff, ↓reduceIte, reduceCtorEq, Nat.reduceAdd, Nat.reduceMul, Int.reduceToNat, List.reduceReplicate, Nat.reduceLeDiff, Nat.reduceLT, Int.reduceLT, Int.reduceLE, Int.reduceEq]; (try rfl); done))) | fail)
      · rw [givenF_any hi _h]
      · refine ⟨i + 1, ⟨by omega, by omega, fun j hj => ?_⟩, rfl⟩
        by_cases e : j = i
        · rw [e]; exact _h
        · exact h0 j (by omega)
    · have hg := givenF_e (l := l) (by omega) fun j hj => h0 j (by omega)
      rw [hg]
      repeat' (first | (with_reducible refine in_seq ?_) | (with_reducible refine in_reg ?_) | (with_reducible refine in_block ?_) | (with_reducible refine in_cond ?_) | (with_reducible refine in_ret ?_) | (with_reducible refine in_skip ?_) | (simp (disch := omega) only [go_sem, Nat.reduceEqDiff, ↓reduceIte, reduceCtorEq, Nat.reduceAdd, Nat.reduceMul, Int.reduceToNat, List.reduceReplicate, Nat.reduceLeDiff, Nat.reduceLT, Int.reduceLT, Int.reduceLE, Int.reduceEq]) | (with_reducible refine giv_intro fun _h => ?_) | (with_reducible refine alt_intro ?_ (fun _h => ?_)) | ((first | with_reducible refine br_dec (fun _h => ?_) (fun _h => ?_) | with_reducible refine br_ndec (fun _h => ?_) (fun _h => ?_)) <;> (first | (exfalso; omega) | simp only [decide_eq_false _h] | simp only [decide_eq_true _h] | skip)) | ((first | with_reducible refine br_not (fun _h => ?_) (fun _h => ?_) | with_reducible refine br_var (fun _h => ?_) (fun _h => ?_)) <;> (try simp only [_h])) | fail)
      (refine loopC hS [0] (by simp only [go_sem, Nat.reduceEqDiff, ↓reduceIte, reduceCtorEq, Nat.reduceAdd, Nat.reduceMul, Int.reduceToNat, List.reduceReplicate, Nat.reduceLeDiff, Nat.reduceLT, Int.reduceLT, Int.reduceLE, Int.reduceEq]; try rfl) (fun (i : Nat) => [(4, intA i)]) (fun (i : Nat) => []) (fun (i : Nat) => i ≤ l.length ∧ ∀ j, j < i → badG l j = false) (fun (i : Nat) => l.length - i) (0) ?h02 ?hn2 ?rd2; case hn2 => (intro s; first | rfl | (rcases s with ⟨_, _⟩; rfl) | (rcases s with ⟨_, _, _⟩; rfl) | (rcases s with ⟨_, _, _, _⟩; rfl) | (rcases s with ⟨_, _, _, _, _⟩; rfl)))
      · simp (disch := omega) only [go_sem, Nat.reduceEqDiff, ↓reduceIte, reduceCtorEq, Nat.reduceAdd, Nat.reduceMul, Int.reduceToNat, List.reduceReplicate, Nat.reduceLeDiff, Nat.reduceLT, Int.reduceLT, Int.reduceLE, Int.reduceEq]; exact ⟨Nat.zero_le _, fun j hj => by omega⟩
      · rintro i ⟨h1, h2⟩
        replace h1 : i ≤ l.length := h1
        replace h2 : ∀ j, j < i → badG l j = false := h2
        by_cases hi : i < l.length
        · have h00 : 0 < l.length := by omega
          have hp : i = 0 ∨ i - 1 < l.length := by omega
          have e1 : ((i : Int) - 1).toNat = i - 1 := by omega
          have c2 := rOrder_ok (nth l (i - 1)).1 (nth l i).1 (hs _ (nth_mem (by omega))) (hs _ (nth_mem hi))
          have e0 : (cellsL l).head? = some (sl (nth l 0).1) := by
            cases l with
            | nil => simp at hi
            | cons g l => rfl
          have e3 : (List.drop 1 (cellsL (List.drop i l))).head? = some (intA (nth l i).2) := by rw [nth_drop hi]; rfl
          repeat' (first | (with_reducible refine in_seq ?_) | (with_reducible refine in_reg ?_) | (with_reducible refine in_block ?_) | (with_reducible refine in_cond ?_) | (with_reducible refine in_ret ?_) | (with_reducible refine in_skip ?_) | (simp (disch := omega) only [go_sem, Nat.reduceEqDiff, ↓reduceIte, reduceCtorEq, Nat.reduceAdd, Nat.reduceMul, Int.reduceToNat, List.reduceReplicate, Nat.reduceLeDiff, Nat.reduceLT, Int.reduceLT, Int.reduceLE, Int.reduceEq, e1, e0, e3]) | (with_reducible refine giv_intro fun _h => ?_) | (with_reducible refine alt_intro ?_ (fun _h => ?_)) | ((first | with_reducible refine br_dec (fun _h => ?_) (fun _h => ?_) | with_reducible refine br_ndec (fun _h => ?_) (fun _h => ?_)) <;> (first | (exfalso; omega) | simp only [decide_eq_false _h] | simp only [decide_eq_true _h] | skip)) | ((first | with_reducible refine br_not (fun _h => ?_) (fun _h => ?_) | with_reducible refine br_var (fun _h => ?_) (fun _h => ?_)) <;> (try simp only [_h])) | ((with_reducible apply call_D (c2)); (focus (simp (disch := omega) only [go_sem, Nat.reduceEqDiff, ↓reduceIte, reduceCtorEq, Nat.reduceAdd, Nat.reduceMul, Int.reduceToNat, List.reduceReplicate, Nat.reduceLeDiff, Nat.reduceLT, Int.reduceLT, Int.reduceLE, Int.reduceEq, e1, e0, e3]; (try rfl); done))) | fail)
          all_goals (first | (refine given_1 hi ?_; simp only [badG, Bool.or_eq_true, Bool.and_eq_true, decide_eq_true_eq, Bool.not_eq_true', decide_eq_false_iff_not]; omega) | skip)
          all_goals
            refine ⟨i + 1, ⟨by omega, by omega, fun j hj => ?_⟩, rfl⟩
            by_cases e : j = i
            · rw [e, ← Bool.not_eq_true]; simp only [badG, Bool.or_eq_true, Bool.and_eq_true, decide_eq_true_eq, Bool.not_eq_true', decide_eq_false_iff_not]; omega
            · exact h2 j (by omega)
        · repeat' (first | (with_reducible refine in_seq ?_) | (with_reducible refine in_reg ?_) | (with_reducible refine in_block ?_) | (with_reducible refine in_cond ?_) | (with_reducible refine in_ret ?_) | (with_reducible refine in_skip ?_) | (simp (disch := omega) only [go_sem, Nat.reduceEqDiff, ↓reduceIte, reduceCtorEq, Nat.reduceAdd, Nat.reduceMul, Int.reduceToNat, List.reduceReplicate, Nat.reduceLeDiff, Nat.reduceLT, Int.reduceLT, Int.reduceLE, Int.reduceEq]) | (with_reducible refine giv_intro fun _h => ?_) | (with_reducible refine alt_intro ?_ (fun _h => ?_)) | ((first | with_reducible refine br_dec (fun _h => ?_) (fun _h => ?_) | with_reducible refine br_ndec (fun _h => ?_) (fun _h => ?_)) <;> (first | (exfalso; omega) | simp only [decide_eq_false _h] | simp only [decide_eq_true _h] | skip)) | ((first | with_reducible refine br_not (fun _h => ?_) (fun _h => ?_) | with_reducible refine br_var (fun _h => ?_) (fun _h => ?_)) <;> (try simp only [_h])) | fail)
          exact given_0 fun j hj => h2 j (by omega)

/-- tally.grams of any list. -/
theorem tGramsF_ok (l : List Gram) (hs : ∀ g ∈ l, g.1.length ≤ 8796093022208) : Fn P 68 [sl l] (intA (givenF l)) := by
  by_cases hl : l.length ≤ 200
  · cases ha : l.any (fun g => anyLong g.1) with
    | false =>
      have := tGrams_ok l hl hs ha
      rwa [givenF, if_neg (by rw [ha]; simp; omega)]
    | true =>
      have c1 := containsFuncG_ok (fun g => anyLong g.1) 109 l (fun g hg => gramLong_ok g (hs g hg)) (by omega)
      rw [ha] at c1
      rw [givenF, if_pos (.inr ha)]
      (refine fn_look s68_ok (by simp) (by intro k; simp only [go_sem, Nat.reduceEqDiff, ↓reduceIte, reduceCtorEq, Nat.reduceAdd, Nat.reduceMul, Int.reduceToNat, List.reduceReplicate, Nat.reduceLeDiff, Nat.reduceLT, Int.reduceLT, Int.reduceLE, Int.reduceEq]) fun S hS => cwp_sound _ _ _ _ ?_; simp (disch := omega) only [s68, go_sem, Nat.reduceEqDiff, ↓reduceIte, reduceCtorEq, Nat.reduceAdd, Nat.reduceMul, Int.reduceToNat, List.reduceReplicate, Nat.reduceLeDiff, Nat.reduceLT, Int.reduceLT, Int.reduceLE, Int.reduceEq])
      repeat' (first | (with_reducible refine in_seq ?_) | (with_reducible refine in_reg ?_) | (with_reducible refine in_block ?_) | (with_reducible refine in_cond ?_) | (with_reducible refine in_ret ?_) | (with_reducible refine in_skip ?_) | (simp (disch := omega) only [go_sem, Nat.reduceEqDiff, ↓reduceIte, reduceCtorEq, Nat.reduceAdd, Nat.reduceMul, Int.reduceToNat, List.reduceReplicate, Nat.reduceLeDiff, Nat.reduceLT, Int.reduceLT, Int.reduceLE, Int.reduceEq]) | (with_reducible refine giv_intro fun _h => ?_) | (with_reducible refine alt_intro ?_ (fun _h => ?_)) | ((first | with_reducible refine br_dec (fun _h => ?_) (fun _h => ?_) | with_reducible refine br_ndec (fun _h => ?_) (fun _h => ?_)) <;> (first | (exfalso; omega) | simp only [decide_eq_false _h] | simp only [decide_eq_true _h] | skip)) | ((first | with_reducible refine br_not (fun _h => ?_) (fun _h => ?_) | with_reducible refine br_var (fun _h => ?_) (fun _h => ?_)) <;> (try simp only [_h])) | ((with_reducible apply call (c1)); (focus (simp (disch := omega) only [go_sem, Nat.reduceEqDiff, ↓reduceIte, reduceCtorEq, Nat.reduceAdd, Nat.reduceMul, Int.reduceToNat, List.reduceReplicate, Nat.reduceLeDiff, Nat.reduceLT, Int.reduceLT, Int.reduceLE, Int.reduceEq]; (try rfl); done))) | fail)
  · rw [givenF_long (by omega)]
    (refine fn_look s68_ok (by simp) (by intro k; simp only [go_sem, Nat.reduceEqDiff, ↓reduceIte, reduceCtorEq, Nat.reduceAdd, Nat.reduceMul, Int.reduceToNat, List.reduceReplicate, Nat.reduceLeDiff, Nat.reduceLT, Int.reduceLT, Int.reduceLE, Int.reduceEq]) fun S hS => cwp_sound _ _ _ _ ?_; simp (disch := omega) only [s68, go_sem, Nat.reduceEqDiff, ↓reduceIte, reduceCtorEq, Nat.reduceAdd, Nat.reduceMul, Int.reduceToNat, List.reduceReplicate, Nat.reduceLeDiff, Nat.reduceLT, Int.reduceLT, Int.reduceLE, Int.reduceEq])
    repeat' (first | (with_reducible refine in_seq ?_) | (with_reducible refine in_reg ?_) | (with_reducible refine in_block ?_) | (with_reducible refine in_cond ?_) | (with_reducible refine in_ret ?_) | (with_reducible refine in_skip ?_) | (simp (disch := omega) only [go_sem, Nat.reduceEqDiff, ↓reduceIte, reduceCtorEq, Nat.reduceAdd, Nat.reduceMul, Int.reduceToNat, List.reduceReplicate, Nat.reduceLeDiff, Nat.reduceLT, Int.reduceLT, Int.reduceLE, Int.reduceEq]) | (with_reducible refine giv_intro fun _h => ?_) | (with_reducible refine alt_intro ?_ (fun _h => ?_)) | ((first | with_reducible refine br_dec (fun _h => ?_) (fun _h => ?_) | with_reducible refine br_ndec (fun _h => ?_) (fun _h => ?_)) <;> (first | (exfalso; omega) | simp only [decide_eq_false _h] | simp only [decide_eq_true _h] | skip)) | ((first | with_reducible refine br_not (fun _h => ?_) (fun _h => ?_) | with_reducible refine br_var (fun _h => ?_) (fun _h => ?_)) <;> (try simp only [_h])) | fail)
end Go.Proofs.Ytedbjmonfbpefaa.Ev

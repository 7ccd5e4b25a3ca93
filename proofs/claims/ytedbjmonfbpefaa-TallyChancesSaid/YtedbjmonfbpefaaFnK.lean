/- TallyChances. -/
import Derived.Test.YtedbjmonfbpefaaFnJ
set_option linter.unusedVariables false
set_option linter.unusedSimpArgs false
namespace Go.Proofs.Ytedbjmonfbpefaa.Ev
open Go Go.Proofs
/-- ablaut/ablautlaw27.TallyChances: 3 parameters, 0 captured -/
def s4 : SC := .seq (.reg [⟨(some 3), .box 22 4 (.t 0), none⟩,
     ⟨(some 6), .mv (.c (.bool false)), none⟩])
  (.seq (.reg [⟨(some 16), .mv (.t 1), none⟩,
      ⟨(some 17), .mv (.t 2), none⟩,
      ⟨(some 18), .call (.f 14) [(.t 16), (.t 17)], none⟩,
      ⟨(some 15), .mv (.t 18), none⟩,
      ⟨(some 19), .ext (.t 15) 0, none⟩,
      ⟨(some 20), .ext (.t 15) 1, none⟩,
      ⟨(some 7), .mv (.t 19), none⟩,
      ⟨(some 8), .mv (.t 20), none⟩])
   (.seq (.reg [⟨(some 22), .mv (.t 1), none⟩,
       ⟨(some 23), .mv (.t 2), none⟩,
       ⟨(some 24), .call (.f 18) [(.t 22), (.t 23)], none⟩,
       ⟨(some 21), .mv (.t 24), none⟩,
       ⟨(some 25), .ext (.t 21) 0, none⟩,
       ⟨(some 26), .ext (.t 21) 1, none⟩,
       ⟨(some 9), .mv (.t 25), none⟩,
       ⟨(some 10), .mv (.t 26), none⟩])
    (.seq (.seq (.reg [⟨(some 27), .mv (.t 7), none⟩,
         ⟨(some 28), .mv (.t 9), none⟩,
         ⟨(some 29), .bin .neq (.t 27) (.t 28), none⟩,
         ⟨(some 30), .mv (.t 29), none⟩,
         ⟨(some 31), .mv (.t 8), some (30, false)⟩,
         ⟨(some 32), .mv (.t 10), some (30, false)⟩,
         ⟨(some 33), .bin .neq (.t 31) (.t 32), some (30, false)⟩,
         ⟨(some 34), .pick (.t 30) (.c (.bool true)) (.t 33), none⟩])
      (.cond (.t 34) (.seq (.reg [⟨(some 6), .mv (.c (.bool false)), none⟩])
        (.ret)) (.skip)))
     (.seq (.reg [⟨(some 36), .load (some 4) (.t 3), none⟩,
         ⟨(some 37), .call (.f 16) [(.t 36)], none⟩,
         ⟨(some 35), .mv (.t 37), none⟩,
         ⟨(some 38), .ext (.t 35) 0, none⟩,
         ⟨(some 39), .ext (.t 35) 1, none⟩,
         ⟨(some 11), .alloc 27 2 [(.int .i64 0), (.int .i64 0)], none⟩,
         ⟨none, .store 2 (.t 11) (.t 38), none⟩,
         ⟨(some 8), .mv (.t 39), none⟩])
      (.seq (.reg [⟨(some 41), .load (some 4) (.t 3), none⟩,
          ⟨(some 42), .call (.f 19) [(.t 41)], none⟩,
          ⟨(some 40), .mv (.t 42), none⟩,
          ⟨(some 43), .ext (.t 40) 0, none⟩,
          ⟨(some 44), .ext (.t 40) 1, none⟩,
          ⟨(some 12), .alloc 27 2 [(.int .i64 0), (.int .i64 0)], none⟩,
          ⟨none, .store 2 (.t 12) (.t 43), none⟩,
          ⟨(some 10), .mv (.t 44), none⟩])
       (.seq (.seq (.reg [⟨(some 45), .load (some 2) (.t 11), none⟩,
            ⟨(some 46), .load (some 2) (.t 12), none⟩,
            ⟨(some 47), .eqS true [((.int .i64), 0), ((.int .i64), 1)] (.t 45) (.t 46), none⟩,
            ⟨(some 48), .mv (.t 47), none⟩,
            ⟨(some 49), .mv (.t 8), some (48, false)⟩,
            ⟨(some 50), .mv (.t 10), some (48, false)⟩,
            ⟨(some 51), .bin .neq (.t 49) (.t 50), some (48, false)⟩,
            ⟨(some 52), .pick (.t 48) (.c (.bool true)) (.t 51), none⟩])
         (.cond (.t 52) (.seq (.reg [⟨(some 6), .mv (.c (.bool false)), none⟩])
           (.ret)) (.skip)))
        (.seq (.reg [⟨(some 54), .load (some 4) (.t 3), none⟩,
            ⟨(some 55), .call (.f 15) [(.t 54)], none⟩,
            ⟨(some 53), .mv (.t 55), none⟩,
            ⟨(some 56), .ext (.t 53) 0, none⟩,
            ⟨(some 57), .ext (.t 53) 1, none⟩,
            ⟨none, .store 2 (.t 11) (.t 56), none⟩,
            ⟨(some 8), .mv (.t 57), none⟩])
         (.seq (.reg [⟨(some 59), .load (some 4) (.t 3), none⟩,
             ⟨(some 60), .call (.f 20) [(.t 59)], none⟩,
             ⟨(some 58), .mv (.t 60), none⟩,
             ⟨(some 61), .ext (.t 58) 0, none⟩,
             ⟨(some 62), .ext (.t 58) 1, none⟩,
             ⟨none, .store 2 (.t 12) (.t 61), none⟩,
             ⟨(some 10), .mv (.t 62), none⟩])
          (.seq (.seq (.reg [⟨(some 63), .load (some 2) (.t 11), none⟩,
               ⟨(some 64), .load (some 2) (.t 12), none⟩,
               ⟨(some 65), .eqS true [((.int .i64), 0), ((.int .i64), 1)] (.t 63) (.t 64), none⟩,
               ⟨(some 66), .mv (.t 65), none⟩,
               ⟨(some 67), .mv (.t 8), some (66, false)⟩,
               ⟨(some 68), .mv (.t 10), some (66, false)⟩,
               ⟨(some 69), .bin .neq (.t 67) (.t 68), some (66, false)⟩,
               ⟨(some 70), .pick (.t 66) (.c (.bool true)) (.t 69), none⟩])
            (.cond (.t 70) (.seq (.reg [⟨(some 6), .mv (.c (.bool false)), none⟩])
              (.ret)) (.skip)))
           (.seq (.reg [⟨(some 72), .load (some 4) (.t 3), none⟩,
               ⟨(some 73), .call (.f 21) [(.t 72)], none⟩,
               ⟨(some 71), .mv (.t 73), none⟩,
               ⟨(some 74), .ext (.t 71) 0, none⟩,
               ⟨(some 75), .ext (.t 71) 1, none⟩,
               ⟨(some 76), .ext (.t 71) 2, none⟩,
               ⟨none, .store 2 (.t 11) (.t 74), none⟩,
               ⟨(some 13), .mv (.t 75), none⟩,
               ⟨(some 8), .mv (.t 76), none⟩])
            (.seq (.reg [⟨(some 78), .load (some 4) (.t 3), none⟩,
                ⟨(some 79), .call (.f 22) [(.t 78)], none⟩,
                ⟨(some 77), .mv (.t 79), none⟩,
                ⟨(some 80), .ext (.t 77) 0, none⟩,
                ⟨(some 81), .ext (.t 77) 1, none⟩,
                ⟨(some 82), .ext (.t 77) 2, none⟩,
                ⟨none, .store 2 (.t 12) (.t 80), none⟩,
                ⟨(some 14), .mv (.t 81), none⟩,
                ⟨(some 10), .mv (.t 82), none⟩])
             (.seq (.seq (.reg [⟨(some 83), .load (some 2) (.t 11), none⟩,
                  ⟨(some 84), .load (some 2) (.t 12), none⟩,
                  ⟨(some 85), .eqS true [((.int .i64), 0), ((.int .i64), 1)] (.t 83) (.t 84), none⟩,
                  ⟨(some 86), .mv (.t 85), none⟩,
                  ⟨(some 87), .mv (.t 13), some (86, false)⟩,
                  ⟨(some 88), .mv (.t 14), some (86, false)⟩,
                  ⟨(some 89), .eq true .bool (.t 87) (.t 88), some (86, false)⟩,
                  ⟨(some 90), .pick (.t 86) (.c (.bool true)) (.t 89), none⟩,
                  ⟨(some 91), .mv (.t 90), none⟩,
                  ⟨(some 92), .mv (.t 8), some (91, false)⟩,
                  ⟨(some 93), .mv (.t 10), some (91, false)⟩,
                  ⟨(some 94), .bin .neq (.t 92) (.t 93), some (91, false)⟩,
                  ⟨(some 95), .pick (.t 91) (.c (.bool true)) (.t 94), none⟩])
               (.cond (.t 95) (.seq (.reg [⟨(some 6), .mv (.c (.bool false)), none⟩])
                 (.ret)) (.skip)))
              (.seq (.reg [⟨(some 97), .load (some 4) (.t 3), none⟩,
                  ⟨(some 98), .call (.f 23) [(.t 97)], none⟩,
                  ⟨(some 96), .mv (.t 98), none⟩,
                  ⟨(some 99), .ext (.t 96) 0, none⟩,
                  ⟨(some 100), .ext (.t 96) 1, none⟩,
                  ⟨(some 101), .ext (.t 96) 2, none⟩,
                  ⟨none, .store 2 (.t 11) (.t 99), none⟩,
                  ⟨(some 13), .mv (.t 100), none⟩,
                  ⟨(some 8), .mv (.t 101), none⟩])
               (.seq (.reg [⟨(some 103), .load (some 4) (.t 3), none⟩,
                   ⟨(some 104), .call (.f 24) [(.t 103)], none⟩,
                   ⟨(some 102), .mv (.t 104), none⟩,
                   ⟨(some 105), .ext (.t 102) 0, none⟩,
                   ⟨(some 106), .ext (.t 102) 1, none⟩,
                   ⟨(some 107), .ext (.t 102) 2, none⟩,
                   ⟨none, .store 2 (.t 12) (.t 105), none⟩,
                   ⟨(some 14), .mv (.t 106), none⟩,
                   ⟨(some 10), .mv (.t 107), none⟩])
                (.seq (.reg [⟨(some 108), .load (some 2) (.t 11), none⟩,
                    ⟨(some 109), .load (some 2) (.t 12), none⟩,
                    ⟨(some 110), .eqS false [((.int .i64), 0), ((.int .i64), 1)] (.t 108) (.t 109), none⟩,
                    ⟨(some 111), .mv (.t 110), none⟩,
                    ⟨(some 112), .mv (.t 13), some (111, true)⟩,
                    ⟨(some 113), .mv (.t 14), some (111, true)⟩,
                    ⟨(some 114), .eq false .bool (.t 112) (.t 113), some (111, true)⟩,
                    ⟨(some 115), .pick (.t 111) (.t 114) (.c (.bool false)), none⟩,
                    ⟨(some 116), .mv (.t 115), none⟩,
                    ⟨(some 117), .mv (.t 8), some (116, true)⟩,
                    ⟨(some 118), .mv (.t 10), some (116, true)⟩,
                    ⟨(some 119), .bin .eql (.t 117) (.t 118), some (116, true)⟩,
                    ⟨(some 120), .pick (.t 116) (.t 119) (.c (.bool false)), none⟩,
                    ⟨(some 121), .mv (.t 120), none⟩,
                    ⟨(some 122), .call (.f 17) [], some (121, true)⟩,
                    ⟨(some 123), .pick (.t 121) (.t 122) (.c (.bool false)), none⟩,
                    ⟨(some 6), .mv (.t 123), none⟩])
                 (.ret))))))))))))))))
theorem s4_ok : lookF Try.prog 4 = some (s4, 124, [.tmp 6]) := by kernel_rfl
set_option maxHeartbeats 2000000 in
theorem tallyChances_A0 (a b c d : Int) (h : ¬ OkT a b c d) (n k : Int) (hp : n < 0 ∨ 60 < n ∨ k < 0 ∨ n < k) : Fn P 4 [tabI a b c d, intA n, intA k] (boolA true) := by
  have k1 := Chosen_no n k hp
  have k2 := rChosen_no n k hp
  have c1 := exact_no a b c d h
  have c2 := rExact_no a b c d h
  have c3 := Tail_no a b c d h
  have c4 := rTailF_no a b c d h
  have c5 := Ratio_no a b c d h
  have c6 := rRatio_no a b c d h
  have c7 := Dice_no a b c d h
  have c8 := rDice_no a b c d h
  refine fn_look s4_ok (by simp) (by intro k; simp only [go_sem, Nat.reduceEqDiff, ↓reduceIte, reduceCtorEq, Nat.reduceAdd, Nat.reduceMul, Int.reduceToNat, List.reduceReplicate, Nat.reduceLeDiff, Nat.reduceLT, Int.reduceLT, Int.reduceLE, Int.reduceEq]) fun S hS => cwp_sound _ _ _ _ ?_
  simp (disch := omega) only [s4, go_sem, Nat.reduceEqDiff, ↓reduceIte, reduceCtorEq, Nat.reduceAdd, Nat.reduceMul, Int.reduceToNat, List.reduceReplicate, Nat.reduceLeDiff, Nat.reduceLT, Int.reduceLT, Int.reduceLE, Int.reduceEq]
  repeat' (first | (with_reducible refine in_seq ?_) | (with_reducible refine in_reg ?_) | (with_reducible refine in_block ?_) | (with_reducible refine in_cond ?_) | (with_reducible refine in_ret ?_) | (with_reducible refine in_skip ?_) | (simp (disch := omega) only [go_sem, Nat.reduceEqDiff, ↓reduceIte, reduceCtorEq, Nat.reduceAdd, Nat.reduceMul, Int.reduceToNat, List.reduceReplicate, Nat.reduceLeDiff, Nat.reduceLT, Int.reduceLT, Int.reduceLE, Int.reduceEq]) | (with_reducible refine giv_intro fun _h => ?_) | ((first | with_reducible refine br_dec (fun _h => ?_) (fun _h => ?_) | with_reducible refine br_ndec (fun _h => ?_) (fun _h => ?_)) <;> (first | (exfalso; omega) | simp only [decide_eq_false _h] | simp only [decide_eq_true _h] | skip)) | ((first | with_reducible refine br_not (fun _h => ?_) (fun _h => ?_) | with_reducible refine br_var (fun _h => ?_) (fun _h => ?_)) <;> (try simp only [_h])) | ((with_reducible apply call (k1)); (focus (simp (disch := omega) only [go_sem, Nat.reduceEqDiff, ↓reduceIte, reduceCtorEq, Nat.reduceAdd, Nat.reduceMul, Int.reduceToNat, List.reduceReplicate, Nat.reduceLeDiff, Nat.reduceLT, Int.reduceLT, Int.reduceLE, Int.reduceEq]; (try rfl); done))) | ((with_reducible apply call (k2)); (focus (simp (disch := omega) only [go_sem, Nat.reduceEqDiff, ↓reduceIte, reduceCtorEq, Nat.reduceAdd, Nat.reduceMul, Int.reduceToNat, List.reduceReplicate, Nat.reduceLeDiff, Nat.reduceLT, Int.reduceLT, Int.reduceLE, Int.reduceEq]; (try rfl); done))) | ((with_reducible apply call (c1)); (focus (simp (disch := omega) only [go_sem, Nat.reduceEqDiff, ↓reduceIte, reduceCtorEq, Nat.reduceAdd, Nat.reduceMul, Int.reduceToNat, List.reduceReplicate, Nat.reduceLeDiff, Nat.reduceLT, Int.reduceLT, Int.reduceLE, Int.reduceEq]; (try rfl); done))) | ((with_reducible apply call (c2)); (focus (simp (disch := omega) only [go_sem, Nat.reduceEqDiff, ↓reduceIte, reduceCtorEq, Nat.reduceAdd, Nat.reduceMul, Int.reduceToNat, List.reduceReplicate, Nat.reduceLeDiff, Nat.reduceLT, Int.reduceLT, Int.reduceLE, Int.reduceEq]; (try rfl); done))) | ((with_reducible apply call (c3)); (focus (simp (disch := omega) only [go_sem, Nat.reduceEqDiff, ↓reduceIte, reduceCtorEq, Nat.reduceAdd, Nat.reduceMul, Int.reduceToNat, List.reduceReplicate, Nat.reduceLeDiff, Nat.reduceLT, Int.reduceLT, Int.reduceLE, Int.reduceEq]; (try rfl); done))) | ((with_reducible apply call (c4)); (focus (simp (disch := omega) only [go_sem, Nat.reduceEqDiff, ↓reduceIte, reduceCtorEq, Nat.reduceAdd, Nat.reduceMul, Int.reduceToNat, List.reduceReplicate, Nat.reduceLeDiff, Nat.reduceLT, Int.reduceLT, Int.reduceLE, Int.reduceEq]; (try rfl); done))) | ((with_reducible apply call (c5)); (focus (simp (disch := omega) only [go_sem, Nat.reduceEqDiff, ↓reduceIte, reduceCtorEq, Nat.reduceAdd, Nat.reduceMul, Int.reduceToNat, List.reduceReplicate, Nat.reduceLeDiff, Nat.reduceLT, Int.reduceLT, Int.reduceLE, Int.reduceEq]; (try rfl); done))) | ((with_reducible apply call (c6)); (focus (simp (disch := omega) only [go_sem, Nat.reduceEqDiff, ↓reduceIte, reduceCtorEq, Nat.reduceAdd, Nat.reduceMul, Int.reduceToNat, List.reduceReplicate, Nat.reduceLeDiff, Nat.reduceLT, Int.reduceLT, Int.reduceLE, Int.reduceEq]; (try rfl); done))) | ((with_reducible apply call (c7)); (focus (simp (disch := omega) only [go_sem, Nat.reduceEqDiff, ↓reduceIte, reduceCtorEq, Nat.reduceAdd, Nat.reduceMul, Int.reduceToNat, List.reduceReplicate, Nat.reduceLeDiff, Nat.reduceLT, Int.reduceLT, Int.reduceLE, Int.reduceEq]; (try rfl); done))) | ((with_reducible apply call (c8)); (focus (simp (disch := omega) only [go_sem, Nat.reduceEqDiff, ↓reduceIte, reduceCtorEq, Nat.reduceAdd, Nat.reduceMul, Int.reduceToNat, List.reduceReplicate, Nat.reduceLeDiff, Nat.reduceLT, Int.reduceLT, Int.reduceLE, Int.reduceEq]; (try rfl); done))) | ((with_reducible apply call (known_ok)); (focus (simp (disch := omega) only [go_sem, Nat.reduceEqDiff, ↓reduceIte, reduceCtorEq, Nat.reduceAdd, Nat.reduceMul, Int.reduceToNat, List.reduceReplicate, Nat.reduceLeDiff, Nat.reduceLT, Int.reduceLT, Int.reduceLE, Int.reduceEq]; (try rfl); done))) | fail)
set_option maxHeartbeats 2000000 in
theorem tallyChances_A1 (a b c d : Nat) (h : a + b + c + d ≤ 40) (n k : Int) (hp : n < 0 ∨ 60 < n ∨ k < 0 ∨ n < k) : Fn P 4 [tabA a b c d, intA n, intA k] (boolA true) := by
  have k1 := Chosen_no n k hp
  have k2 := rChosen_no n k hp
  have hA := allW_le a b c d h
  have hE := exW_le a b c d h
  have c1 := exact_ok a b c d h (by omega) (by omega) (allW_pos a b c d)
  have c2 := rExact_ok a b c d h
  have c3 := Tail_ok a b c d h
  have c4 := rTailF_ok a b c d h
  have c5 := Ratio_ok a b c d h
  have c6 := rRatio_ok a b c d h
  have c7 := Dice_ok a b c d h
  have c8 := rDice_ok a b c d h
  generalize tlW a b c d / Nat.gcd (tlW a b c d) (allW a b c d) = tn at *
  generalize allW a b c d / Nat.gcd (tlW a b c d) (allW a b c d) = td at *
  generalize exW a b c d / Nat.gcd (exW a b c d) (allW a b c d) = en at *
  generalize allW a b c d / Nat.gcd (exW a b c d) (allW a b c d) = ed at *
  generalize rtN (raX a b c d) (raY a b c d) = rn at *
  generalize rtD (raX a b c d) (raY a b c d) = rd at *
  generalize decide (raY a b c d ≠ 0) = rb at *
  generalize rtN (2 * a) (2 * a + b + c) = dn at *
  generalize rtD (2 * a) (2 * a + b + c) = dd at *
  generalize decide (2 * a + b + c ≠ 0) = db at *
  refine fn_look s4_ok (by simp) (by intro k; simp only [go_sem, Nat.reduceEqDiff, ↓reduceIte, reduceCtorEq, Nat.reduceAdd, Nat.reduceMul, Int.reduceToNat, List.reduceReplicate, Nat.reduceLeDiff, Nat.reduceLT, Int.reduceLT, Int.reduceLE, Int.reduceEq]) fun S hS => cwp_sound _ _ _ _ ?_
  simp (disch := omega) only [s4, go_sem, Nat.reduceEqDiff, ↓reduceIte, reduceCtorEq, Nat.reduceAdd, Nat.reduceMul, Int.reduceToNat, List.reduceReplicate, Nat.reduceLeDiff, Nat.reduceLT, Int.reduceLT, Int.reduceLE, Int.reduceEq]
  repeat' (first | (with_reducible refine in_seq ?_) | (with_reducible refine in_reg ?_) | (with_reducible refine in_block ?_) | (with_reducible refine in_cond ?_) | (with_reducible refine in_ret ?_) | (with_reducible refine in_skip ?_) | (simp (disch := omega) only [go_sem, Nat.reduceEqDiff, ↓reduceIte, reduceCtorEq, Nat.reduceAdd, Nat.reduceMul, Int.reduceToNat, List.reduceReplicate, Nat.reduceLeDiff, Nat.reduceLT, Int.reduceLT, Int.reduceLE, Int.reduceEq]) | (with_reducible refine giv_intro fun _h => ?_) | ((first | with_reducible refine br_dec (fun _h => ?_) (fun _h => ?_) | with_reducible refine br_ndec (fun _h => ?_) (fun _h => ?_)) <;> (first | (exfalso; omega) | simp only [decide_eq_false _h] | simp only [decide_eq_true _h] | skip)) | ((first | with_reducible refine br_not (fun _h => ?_) (fun _h => ?_) | with_reducible refine br_var (fun _h => ?_) (fun _h => ?_)) <;> (try simp only [_h])) | ((with_reducible apply call (k1)); (focus (simp (disch := omega) only [go_sem, Nat.reduceEqDiff, ↓reduceIte, reduceCtorEq, Nat.reduceAdd, Nat.reduceMul, Int.reduceToNat, List.reduceReplicate, Nat.reduceLeDiff, Nat.reduceLT, Int.reduceLT, Int.reduceLE, Int.reduceEq]; (try rfl); done))) | ((with_reducible apply call (k2)); (focus (simp (disch := omega) only [go_sem, Nat.reduceEqDiff, ↓reduceIte, reduceCtorEq, Nat.reduceAdd, Nat.reduceMul, Int.reduceToNat, List.reduceReplicate, Nat.reduceLeDiff, Nat.reduceLT, Int.reduceLT, Int.reduceLE, Int.reduceEq]; (try rfl); done))) | ((with_reducible apply call (c1)); (focus (simp (disch := omega) only [go_sem, Nat.reduceEqDiff, ↓reduceIte, reduceCtorEq, Nat.reduceAdd, Nat.reduceMul, Int.reduceToNat, List.reduceReplicate, Nat.reduceLeDiff, Nat.reduceLT, Int.reduceLT, Int.reduceLE, Int.reduceEq]; (try rfl); done))) | ((with_reducible apply call (c2)); (focus (simp (disch := omega) only [go_sem, Nat.reduceEqDiff, ↓reduceIte, reduceCtorEq, Nat.reduceAdd, Nat.reduceMul, Int.reduceToNat, List.reduceReplicate, Nat.reduceLeDiff, Nat.reduceLT, Int.reduceLT, Int.reduceLE, Int.reduceEq]; (try rfl); done))) | ((with_reducible apply call (c3)); (focus (simp (disch := omega) only [go_sem, Nat.reduceEqDiff, ↓reduceIte, reduceCtorEq, Nat.reduceAdd, Nat.reduceMul, Int.reduceToNat, List.reduceReplicate, Nat.reduceLeDiff, Nat.reduceLT, Int.reduceLT, Int.reduceLE, Int.reduceEq]; (try rfl); done))) | ((with_reducible apply call (c4)); (focus (simp (disch := omega) only [go_sem, Nat.reduceEqDiff, ↓reduceIte, reduceCtorEq, Nat.reduceAdd, Nat.reduceMul, Int.reduceToNat, List.reduceReplicate, Nat.reduceLeDiff, Nat.reduceLT, Int.reduceLT, Int.reduceLE, Int.reduceEq]; (try rfl); done))) | ((with_reducible apply call (c5)); (focus (simp (disch := omega) only [go_sem, Nat.reduceEqDiff, ↓reduceIte, reduceCtorEq, Nat.reduceAdd, Nat.reduceMul, Int.reduceToNat, List.reduceReplicate, Nat.reduceLeDiff, Nat.reduceLT, Int.reduceLT, Int.reduceLE, Int.reduceEq]; (try rfl); done))) | ((with_reducible apply call (c6)); (focus (simp (disch := omega) only [go_sem, Nat.reduceEqDiff, ↓reduceIte, reduceCtorEq, Nat.reduceAdd, Nat.reduceMul, Int.reduceToNat, List.reduceReplicate, Nat.reduceLeDiff, Nat.reduceLT, Int.reduceLT, Int.reduceLE, Int.reduceEq]; (try rfl); done))) | ((with_reducible apply call (c7)); (focus (simp (disch := omega) only [go_sem, Nat.reduceEqDiff, ↓reduceIte, reduceCtorEq, Nat.reduceAdd, Nat.reduceMul, Int.reduceToNat, List.reduceReplicate, Nat.reduceLeDiff, Nat.reduceLT, Int.reduceLT, Int.reduceLE, Int.reduceEq]; (try rfl); done))) | ((with_reducible apply call (c8)); (focus (simp (disch := omega) only [go_sem, Nat.reduceEqDiff, ↓reduceIte, reduceCtorEq, Nat.reduceAdd, Nat.reduceMul, Int.reduceToNat, List.reduceReplicate, Nat.reduceLeDiff, Nat.reduceLT, Int.reduceLT, Int.reduceLE, Int.reduceEq]; (try rfl); done))) | ((with_reducible apply call (known_ok)); (focus (simp (disch := omega) only [go_sem, Nat.reduceEqDiff, ↓reduceIte, reduceCtorEq, Nat.reduceAdd, Nat.reduceMul, Int.reduceToNat, List.reduceReplicate, Nat.reduceLeDiff, Nat.reduceLT, Int.reduceLT, Int.reduceLE, Int.reduceEq]; (try rfl); done))) | fail)
set_option maxHeartbeats 2000000 in
theorem tallyChances_B0 (a b c d : Int) (h : ¬ OkT a b c d) (n k : Nat) (hn : n ≤ 60) (hk : k ≤ n) : Fn P 4 [tabI a b c d, intA (n : Int), intA (k : Int)] (boolA true) := by
  have k1 := Chosen_ok n k hn hk
  have k2 := rChosen_ok n k hn hk
  have c1 := exact_no a b c d h
  have c2 := rExact_no a b c d h
  have c3 := Tail_no a b c d h
  have c4 := rTailF_no a b c d h
  have c5 := Ratio_no a b c d h
  have c6 := rRatio_no a b c d h
  have c7 := Dice_no a b c d h
  have c8 := rDice_no a b c d h
  refine fn_look s4_ok (by simp) (by intro k; simp only [go_sem, Nat.reduceEqDiff, ↓reduceIte, reduceCtorEq, Nat.reduceAdd, Nat.reduceMul, Int.reduceToNat, List.reduceReplicate, Nat.reduceLeDiff, Nat.reduceLT, Int.reduceLT, Int.reduceLE, Int.reduceEq]) fun S hS => cwp_sound _ _ _ _ ?_
  simp (disch := omega) only [s4, go_sem, Nat.reduceEqDiff, ↓reduceIte, reduceCtorEq, Nat.reduceAdd, Nat.reduceMul, Int.reduceToNat, List.reduceReplicate, Nat.reduceLeDiff, Nat.reduceLT, Int.reduceLT, Int.reduceLE, Int.reduceEq]
  repeat' (first | (with_reducible refine in_seq ?_) | (with_reducible refine in_reg ?_) | (with_reducible refine in_block ?_) | (with_reducible refine in_cond ?_) | (with_reducible refine in_ret ?_) | (with_reducible refine in_skip ?_) | (simp (disch := omega) only [go_sem, Nat.reduceEqDiff, ↓reduceIte, reduceCtorEq, Nat.reduceAdd, Nat.reduceMul, Int.reduceToNat, List.reduceReplicate, Nat.reduceLeDiff, Nat.reduceLT, Int.reduceLT, Int.reduceLE, Int.reduceEq]) | (with_reducible refine giv_intro fun _h => ?_) | ((first | with_reducible refine br_dec (fun _h => ?_) (fun _h => ?_) | with_reducible refine br_ndec (fun _h => ?_) (fun _h => ?_)) <;> (first | (exfalso; omega) | simp only [decide_eq_false _h] | simp only [decide_eq_true _h] | skip)) | ((first | with_reducible refine br_not (fun _h => ?_) (fun _h => ?_) | with_reducible refine br_var (fun _h => ?_) (fun _h => ?_)) <;> (try simp only [_h])) | ((with_reducible apply call (k1)); (focus (simp (disch := omega) only [go_sem, Nat.reduceEqDiff, ↓reduceIte, reduceCtorEq, Nat.reduceAdd, Nat.reduceMul, Int.reduceToNat, List.reduceReplicate, Nat.reduceLeDiff, Nat.reduceLT, Int.reduceLT, Int.reduceLE, Int.reduceEq]; (try rfl); done))) | ((with_reducible apply call (k2)); (focus (simp (disch := omega) only [go_sem, Nat.reduceEqDiff, ↓reduceIte, reduceCtorEq, Nat.reduceAdd, Nat.reduceMul, Int.reduceToNat, List.reduceReplicate, Nat.reduceLeDiff, Nat.reduceLT, Int.reduceLT, Int.reduceLE, Int.reduceEq]; (try rfl); done))) | ((with_reducible apply call (c1)); (focus (simp (disch := omega) only [go_sem, Nat.reduceEqDiff, ↓reduceIte, reduceCtorEq, Nat.reduceAdd, Nat.reduceMul, Int.reduceToNat, List.reduceReplicate, Nat.reduceLeDiff, Nat.reduceLT, Int.reduceLT, Int.reduceLE, Int.reduceEq]; (try rfl); done))) | ((with_reducible apply call (c2)); (focus (simp (disch := omega) only [go_sem, Nat.reduceEqDiff, ↓reduceIte, reduceCtorEq, Nat.reduceAdd, Nat.reduceMul, Int.reduceToNat, List.reduceReplicate, Nat.reduceLeDiff, Nat.reduceLT, Int.reduceLT, Int.reduceLE, Int.reduceEq]; (try rfl); done))) | ((with_reducible apply call (c3)); (focus (simp (disch := omega) only [go_sem, Nat.reduceEqDiff, ↓reduceIte, reduceCtorEq, Nat.reduceAdd, Nat.reduceMul, Int.reduceToNat, List.reduceReplicate, Nat.reduceLeDiff, Nat.reduceLT, Int.reduceLT, Int.reduceLE, Int.reduceEq]; (try rfl); done))) | ((with_reducible apply call (c4)); (focus (simp (disch := omega) only [go_sem, Nat.reduceEqDiff, ↓reduceIte, reduceCtorEq, Nat.reduceAdd, Nat.reduceMul, Int.reduceToNat, List.reduceReplicate, Nat.reduceLeDiff, Nat.reduceLT, Int.reduceLT, Int.reduceLE, Int.reduceEq]; (try rfl); done))) | ((with_reducible apply call (c5)); (focus (simp (disch := omega) only [go_sem, Nat.reduceEqDiff, ↓reduceIte, reduceCtorEq, Nat.reduceAdd, Nat.reduceMul, Int.reduceToNat, List.reduceReplicate, Nat.reduceLeDiff, Nat.reduceLT, Int.reduceLT, Int.reduceLE, Int.reduceEq]; (try rfl); done))) | ((with_reducible apply call (c6)); (focus (simp (disch := omega) only [go_sem, Nat.reduceEqDiff, ↓reduceIte, reduceCtorEq, Nat.reduceAdd, Nat.reduceMul, Int.reduceToNat, List.reduceReplicate, Nat.reduceLeDiff, Nat.reduceLT, Int.reduceLT, Int.reduceLE, Int.reduceEq]; (try rfl); done))) | ((with_reducible apply call (c7)); (focus (simp (disch := omega) only [go_sem, Nat.reduceEqDiff, ↓reduceIte, reduceCtorEq, Nat.reduceAdd, Nat.reduceMul, Int.reduceToNat, List.reduceReplicate, Nat.reduceLeDiff, Nat.reduceLT, Int.reduceLT, Int.reduceLE, Int.reduceEq]; (try rfl); done))) | ((with_reducible apply call (c8)); (focus (simp (disch := omega) only [go_sem, Nat.reduceEqDiff, ↓reduceIte, reduceCtorEq, Nat.reduceAdd, Nat.reduceMul, Int.reduceToNat, List.reduceReplicate, Nat.reduceLeDiff, Nat.reduceLT, Int.reduceLT, Int.reduceLE, Int.reduceEq]; (try rfl); done))) | ((with_reducible apply call (known_ok)); (focus (simp (disch := omega) only [go_sem, Nat.reduceEqDiff, ↓reduceIte, reduceCtorEq, Nat.reduceAdd, Nat.reduceMul, Int.reduceToNat, List.reduceReplicate, Nat.reduceLeDiff, Nat.reduceLT, Int.reduceLT, Int.reduceLE, Int.reduceEq]; (try rfl); done))) | fail)
set_option maxHeartbeats 2000000 in
theorem tallyChances_B1 (a b c d : Nat) (h : a + b + c + d ≤ 40) (n k : Nat) (hn : n ≤ 60) (hk : k ≤ n) : Fn P 4 [tabA a b c d, intA (n : Int), intA (k : Int)] (boolA true) := by
  have k1 := Chosen_ok n k hn hk
  have k2 := rChosen_ok n k hn hk
  have hA := allW_le a b c d h
  have hE := exW_le a b c d h
  have c1 := exact_ok a b c d h (by omega) (by omega) (allW_pos a b c d)
  have c2 := rExact_ok a b c d h
  have c3 := Tail_ok a b c d h
  have c4 := rTailF_ok a b c d h
  have c5 := Ratio_ok a b c d h
  have c6 := rRatio_ok a b c d h
  have c7 := Dice_ok a b c d h
  have c8 := rDice_ok a b c d h
  generalize tlW a b c d / Nat.gcd (tlW a b c d) (allW a b c d) = tn at *
  generalize allW a b c d / Nat.gcd (tlW a b c d) (allW a b c d) = td at *
  generalize exW a b c d / Nat.gcd (exW a b c d) (allW a b c d) = en at *
  generalize allW a b c d / Nat.gcd (exW a b c d) (allW a b c d) = ed at *
  generalize rtN (raX a b c d) (raY a b c d) = rn at *
  generalize rtD (raX a b c d) (raY a b c d) = rd at *
  generalize decide (raY a b c d ≠ 0) = rb at *
  generalize rtN (2 * a) (2 * a + b + c) = dn at *
  generalize rtD (2 * a) (2 * a + b + c) = dd at *
  generalize decide (2 * a + b + c ≠ 0) = db at *
  refine fn_look s4_ok (by simp) (by intro k; simp only [go_sem, Nat.reduceEqDiff, ↓reduceIte, reduceCtorEq, Nat.reduceAdd, Nat.reduceMul, Int.reduceToNat, List.reduceReplicate, Nat.reduceLeDiff, Nat.reduceLT, Int.reduceLT, Int.reduceLE, Int.reduceEq]) fun S hS => cwp_sound _ _ _ _ ?_
  simp (disch := omega) only [s4, go_sem, Nat.reduceEqDiff, ↓reduceIte, reduceCtorEq, Nat.reduceAdd, Nat.reduceMul, Int.reduceToNat, List.reduceReplicate, Nat.reduceLeDiff, Nat.reduceLT, Int.reduceLT, Int.reduceLE, Int.reduceEq]
  repeat' (first | (with_reducible refine in_seq ?_) | (with_reducible refine in_reg ?_) | (with_reducible refine in_block ?_) | (with_reducible refine in_cond ?_) | (with_reducible refine in_ret ?_) | (with_reducible refine in_skip ?_) | (simp (disch := omega) only [go_sem, Nat.reduceEqDiff, ↓reduceIte, reduceCtorEq, Nat.reduceAdd, Nat.reduceMul, Int.reduceToNat, List.reduceReplicate, Nat.reduceLeDiff, Nat.reduceLT, Int.reduceLT, Int.reduceLE, Int.reduceEq]) | (with_reducible refine giv_intro fun _h => ?_) | ((first | with_reducible refine br_dec (fun _h => ?_) (fun _h => ?_) | with_reducible refine br_ndec (fun _h => ?_) (fun _h => ?_)) <;> (first | (exfalso; omega) | simp only [decide_eq_false _h] | simp only [decide_eq_true _h] | skip)) | ((first | with_reducible refine br_not (fun _h => ?_) (fun _h => ?_) | with_reducible refine br_var (fun _h => ?_) (fun _h => ?_)) <;> (try simp only [_h])) | ((with_reducible apply call (k1)); (focus (simp (disch := omega) only [go_sem, Nat.reduceEqDiff, ↓reduceIte, reduceCtorEq, Nat.reduceAdd, Nat.reduceMul, Int.reduceToNat, List.reduceReplicate, Nat.reduceLeDiff, Nat.reduceLT, Int.reduceLT, Int.reduceLE, Int.reduceEq]; (try rfl); done))) | ((with_reducible apply call (k2)); (focus (simp (disch := omega) only [go_sem, Nat.reduceEqDiff, ↓reduceIte, reduceCtorEq, Nat.reduceAdd, Nat.reduceMul, Int.reduceToNat, List.reduceReplicate, Nat.reduceLeDiff, Nat.reduceLT, Int.reduceLT, Int.reduceLE, Int.reduceEq]; (try rfl); done))) | ((with_reducible apply call (c1)); (focus (simp (disch := omega) only [go_sem, Nat.reduceEqDiff, ↓reduceIte, reduceCtorEq, Nat.reduceAdd, Nat.reduceMul, Int.reduceToNat, List.reduceReplicate, Nat.reduceLeDiff, Nat.reduceLT, Int.reduceLT, Int.reduceLE, Int.reduceEq]; (try rfl); done))) | ((with_reducible apply call (c2)); (focus (simp (disch := omega) only [go_sem, Nat.reduceEqDiff, ↓reduceIte, reduceCtorEq, Nat.reduceAdd, Nat.reduceMul, Int.reduceToNat, List.reduceReplicate, Nat.reduceLeDiff, Nat.reduceLT, Int.reduceLT, Int.reduceLE, Int.reduceEq]; (try rfl); done))) | ((with_reducible apply call (c3)); (focus (simp (disch := omega) only [go_sem, Nat.reduceEqDiff, ↓reduceIte, reduceCtorEq, Nat.reduceAdd, Nat.reduceMul, Int.reduceToNat, List.reduceReplicate, Nat.reduceLeDiff, Nat.reduceLT, Int.reduceLT, Int.reduceLE, Int.reduceEq]; (try rfl); done))) | ((with_reducible apply call (c4)); (focus (simp (disch := omega) only [go_sem, Nat.reduceEqDiff, ↓reduceIte, reduceCtorEq, Nat.reduceAdd, Nat.reduceMul, Int.reduceToNat, List.reduceReplicate, Nat.reduceLeDiff, Nat.reduceLT, Int.reduceLT, Int.reduceLE, Int.reduceEq]; (try rfl); done))) | ((with_reducible apply call (c5)); (focus (simp (disch := omega) only [go_sem, Nat.reduceEqDiff, ↓reduceIte, reduceCtorEq, Nat.reduceAdd, Nat.reduceMul, Int.reduceToNat, List.reduceReplicate, Nat.reduceLeDiff, Nat.reduceLT, Int.reduceLT, Int.reduceLE, Int.reduceEq]; (try rfl); done))) | ((with_reducible apply call (c6)); (focus (simp (disch := omega) only [go_sem, Nat.reduceEqDiff, ↓reduceIte, reduceCtorEq, Nat.reduceAdd, Nat.reduceMul, Int.reduceToNat, List.reduceReplicate, Nat.reduceLeDiff, Nat.reduceLT, Int.reduceLT, Int.reduceLE, Int.reduceEq]; (try rfl); done))) | ((with_reducible apply call (c7)); (focus (simp (disch := omega) only [go_sem, Nat.reduceEqDiff, ↓reduceIte, reduceCtorEq, Nat.reduceAdd, Nat.reduceMul, Int.reduceToNat, List.reduceReplicate, Nat.reduceLeDiff, Nat.reduceLT, Int.reduceLT, Int.reduceLE, Int.reduceEq]; (try rfl); done))) | ((with_reducible apply call (c8)); (focus (simp (disch := omega) only [go_sem, Nat.reduceEqDiff, ↓reduceIte, reduceCtorEq, Nat.reduceAdd, Nat.reduceMul, Int.reduceToNat, List.reduceReplicate, Nat.reduceLeDiff, Nat.reduceLT, Int.reduceLT, Int.reduceLE, Int.reduceEq]; (try rfl); done))) | ((with_reducible apply call (known_ok)); (focus (simp (disch := omega) only [go_sem, Nat.reduceEqDiff, ↓reduceIte, reduceCtorEq, Nat.reduceAdd, Nat.reduceMul, Int.reduceToNat, List.reduceReplicate, Nat.reduceLeDiff, Nat.reduceLT, Int.reduceLT, Int.reduceLE, Int.reduceEq]; (try rfl); done))) | fail)
theorem tallyChances_ok (t : Int × Int × Int × Int) (n k : Int) : Fn P 4 [tabI t.1 t.2.1 t.2.2.1 t.2.2.2, intA n, intA k] (boolA true) := by
  obtain ⟨a, b, c, d⟩ := t
  have toN : ∀ {x : Int}, 0 ≤ x → ∃ y : Nat, x = y := fun h => ⟨_, (Int.toNat_of_nonneg h).symm⟩
  by_cases hp : n < 0 ∨ 60 < n ∨ k < 0 ∨ n < k
  · by_cases ht : OkT a b c d
    · obtain ⟨h1, h2, h3, h4, h5⟩ := ht
      obtain ⟨a, rfl⟩ := toN h1; obtain ⟨b, rfl⟩ := toN h2; obtain ⟨c, rfl⟩ := toN h3; obtain ⟨d, rfl⟩ := toN h4
      exact tallyChances_A1 a b c d (by omega) n k hp
    · exact tallyChances_A0 a b c d ht n k hp
  · obtain ⟨n, rfl⟩ := toN (x := n) (by omega); obtain ⟨k, rfl⟩ := toN (x := k) (by omega)
    by_cases ht : OkT a b c d
    · obtain ⟨h1, h2, h3, h4, h5⟩ := ht
      obtain ⟨a, rfl⟩ := toN h1; obtain ⟨b, rfl⟩ := toN h2; obtain ⟨c, rfl⟩ := toN h3; obtain ⟨d, rfl⟩ := toN h4
      exact tallyChances_B1 a b c d (by omega) n k (by omega) (by omega)
    · exact tallyChances_B0 a b c d ht n k (by omega) (by omega)
end Go.Proofs.Ytedbjmonfbpefaa.Ev

/- The reference's chances; ratios. -/
import Derived.Test.YtedbjmonfbpefaaFnI
set_option linter.unusedVariables false
set_option linter.unusedSimpArgs false
namespace Go.Proofs.Ytedbjmonfbpefaa.Ev
open Go Go.Proofs

/-- ablaut/ablautref27.Chosen: 2 parameters, 0 captured -/
def s18 : SC := .seq (.reg [⟨(some 4), .mv (.c (.int .i64 0)), none⟩,
     ⟨(some 5), .mv (.c (.int .i64 0)), none⟩])
  (.seq (.seq (.reg [⟨(some 6), .mv (.t 0), none⟩,
       ⟨(some 7), .bin .lss (.t 6) (.c (.int .i64 0)), none⟩,
       ⟨(some 8), .mv (.t 7), none⟩,
       ⟨(some 9), .mv (.t 0), some (8, false)⟩,
       ⟨(some 10), .bin .gtr (.t 9) (.c (.int .i64 60)), some (8, false)⟩,
       ⟨(some 11), .pick (.t 8) (.c (.bool true)) (.t 10), none⟩,
       ⟨(some 12), .mv (.t 11), none⟩,
       ⟨(some 13), .mv (.t 1), some (12, false)⟩,
       ⟨(some 14), .bin .lss (.t 13) (.c (.int .i64 0)), some (12, false)⟩,
       ⟨(some 15), .pick (.t 12) (.c (.bool true)) (.t 14), none⟩,
       ⟨(some 16), .mv (.t 15), none⟩,
       ⟨(some 17), .mv (.t 1), some (16, false)⟩,
       ⟨(some 18), .mv (.t 0), some (16, false)⟩,
       ⟨(some 19), .bin .gtr (.t 17) (.t 18), some (16, false)⟩,
       ⟨(some 20), .pick (.t 16) (.c (.bool true)) (.t 19), none⟩])
    (.cond (.t 20) (.seq (.reg [⟨(some 4), .mv (.c (.int .i64 0)), none⟩,
         ⟨(some 5), .mv (.c (.int .i64 1)), none⟩])
      (.ret)) (.skip)))
   (.seq (.reg [⟨(some 21), .mv (.t 0), none⟩,
       ⟨(some 22), .mv (.t 1), none⟩,
       ⟨(some 23), .call (.f 51) [(.t 21), (.t 22)], none⟩,
       ⟨(some 4), .mv (.t 23), none⟩,
       ⟨(some 5), .mv (.c (.int .i64 0)), none⟩])
    (.ret)))
theorem s18_ok : lookF Try.prog 18 = some (s18, 24, [.tmp 4, .tmp 5]) := by kernel_rfl
theorem rChosen_ok (n k : Nat) (hn : n ≤ 60) (hk : k ≤ n) : Fn P 18 [intA n, intA k] (.tup [intA (bin n k : Nat), intA 0]) := by
  have c1 := refChosen_ok n k hn (by omega)
  (refine fn_look s18_ok (by simp) (by intro k; simp only [go_sem, Nat.reduceEqDiff, ↓reduceIte, reduceCtorEq, Nat.reduceAdd, Nat.reduceMul, Int.reduceToNat, List.reduceReplicate, Nat.reduceLeDiff, Nat.reduceLT, Int.reduceLT, Int.reduceLE, Int.reduceEq]) fun S hS => cwp_sound _ _ _ _ ?_; simp (disch := omega) only [s18, go_sem, Nat.reduceEqDiff, ↓reduceIte, reduceCtorEq, Nat.reduceAdd, Nat.reduceMul, Int.reduceToNat, List.reduceReplicate, Nat.reduceLeDiff, Nat.reduceLT, Int.reduceLT, Int.reduceLE, Int.reduceEq])
  repeat' (first | (with_reducible refine in_seq ?_) | (with_reducible refine in_reg ?_) | (with_reducible refine in_block ?_) | (with_reducible refine in_cond ?_) | (with_reducible refine in_ret ?_) | (with_reducible refine in_skip ?_) | (simp (disch := omega) only [go_sem, Nat.reduceEqDiff, ↓reduceIte, reduceCtorEq, Nat.reduceAdd, Nat.reduceMul, Int.reduceToNat, List.reduceReplicate, Nat.reduceLeDiff, Nat.reduceLT, Int.reduceLT, Int.reduceLE, Int.reduceEq]) | (with_reducible refine giv_intro fun _h => ?_) | (with_reducible refine alt_intro ?_ (fun _h => ?_)) | ((first | with_reducible refine br_dec (fun _h => ?_) (fun _h => ?_) | with_reducible refine br_ndec (fun _h => ?_) (fun _h => ?_)) <;> (first | (exfalso; omega) | simp only [decide_eq_false _h] | simp only [decide_eq_true _h] | skip)) | ((first | with_reducible refine br_not (fun _h => ?_) (fun _h => ?_) | with_reducible refine br_var (fun _h => ?_) (fun _h => ?_)) <;> (try simp only [_h])) | ((with_reducible apply call (c1)); (focus (simp (disch := omega) only [go_sem, Nat.reduceEqDiff, ↓reduceIte, reduceCtorEq, Nat.reduceAdd, Nat.reduceMul, Int.reduceToNat, List.reduceReplicate, Nat.reduceLeDiff, Nat.reduceLT, Int.reduceLT, Int.reduceLE, Int.reduceEq]; (try rfl); done))) | fail)
theorem rChosen_no (n k : Int) (h : n < 0 ∨ 60 < n ∨ k < 0 ∨ n < k) : Fn P 18 [intA n, intA k] (.tup [intA 0, intA 1]) := by
  (refine fn_look s18_ok (by simp) (by intro k; simp only [go_sem, Nat.reduceEqDiff, ↓reduceIte, reduceCtorEq, Nat.reduceAdd, Nat.reduceMul, Int.reduceToNat, List.reduceReplicate, Nat.reduceLeDiff, Nat.reduceLT, Int.reduceLT, Int.reduceLE, Int.reduceEq]) fun S hS => cwp_sound _ _ _ _ ?_; simp (disch := omega) only [s18, go_sem, Nat.reduceEqDiff, ↓reduceIte, reduceCtorEq, Nat.reduceAdd, Nat.reduceMul, Int.reduceToNat, List.reduceReplicate, Nat.reduceLeDiff, Nat.reduceLT, Int.reduceLT, Int.reduceLE, Int.reduceEq])
  repeat' (first | (with_reducible refine in_seq ?_) | (with_reducible refine in_reg ?_) | (with_reducible refine in_block ?_) | (with_reducible refine in_cond ?_) | (with_reducible refine in_ret ?_) | (with_reducible refine in_skip ?_) | (simp (disch := omega) only [go_sem, Nat.reduceEqDiff, ↓reduceIte, reduceCtorEq, Nat.reduceAdd, Nat.reduceMul, Int.reduceToNat, List.reduceReplicate, Nat.reduceLeDiff, Nat.reduceLT, Int.reduceLT, Int.reduceLE, Int.reduceEq]) | (with_reducible refine giv_intro fun _h => ?_) | (with_reducible refine alt_intro ?_ (fun _h => ?_)) | ((first | with_reducible refine br_dec (fun _h => ?_) (fun _h => ?_) | with_reducible refine br_ndec (fun _h => ?_) (fun _h => ?_)) <;> (first | (exfalso; omega) | simp only [decide_eq_false _h] | simp only [decide_eq_true _h] | skip)) | ((first | with_reducible refine br_not (fun _h => ?_) (fun _h => ?_) | with_reducible refine br_var (fun _h => ?_) (fun _h => ?_)) <;> (try simp only [_h])) | fail)

/-- ablaut/ablautref27.ways: 1 parameters, 0 captured -/
def s54 : SC := .seq (.reg [⟨(some 1), .box 22 4 (.t 0), none⟩,
     ⟨(some 2), .mv (.c (.int .i64 0)), none⟩])
  (.seq (.regD [⟨(some 3), .iaddrA 4 1 (.t 1) (.c (.int .i64 0)), none⟩,
      ⟨(some 4), .load none (.t 3), none⟩,
      ⟨(some 5), .iaddrA 4 1 (.t 1) (.c (.int .i64 1)), none⟩,
      ⟨(some 6), .load none (.t 5), none⟩,
      ⟨(some 7), .bin .add (.t 4) (.t 6), none⟩,
      ⟨(some 8), .iaddrA 4 1 (.t 1) (.c (.int .i64 0)), none⟩,
      ⟨(some 9), .load none (.t 8), none⟩,
      ⟨(some 10), .call (.f 51) [(.t 7), (.t 9)], none⟩,
      ⟨(some 11), .iaddrA 4 1 (.t 1) (.c (.int .i64 2)), none⟩,
      ⟨(some 12), .load none (.t 11), none⟩,
      ⟨(some 13), .iaddrA 4 1 (.t 1) (.c (.int .i64 3)), none⟩,
      ⟨(some 14), .load none (.t 13), none⟩,
      ⟨(some 15), .bin .add (.t 12) (.t 14), none⟩,
      ⟨(some 16), .iaddrA 4 1 (.t 1) (.c (.int .i64 2)), none⟩,
      ⟨(some 17), .load none (.t 16), none⟩,
      ⟨(some 18), .call (.f 51) [(.t 15), (.t 17)], none⟩,
      ⟨(some 19), .bin .mul (.t 10) (.t 18), none⟩,
      ⟨(some 2), .mv (.t 19), none⟩])
   (.ret))
theorem s54_ok : lookF Try.prog 54 = some (s54, 20, [.tmp 2]) := by kernel_rfl
theorem rWays_ok (a b c d : Nat) (h : a + b + c + d ≤ 40) : Fn P 54 [tabA a b c d] (intA (exW a b c d : Nat)) := by
  have hE := exW_le a b c d h
  have c1 := refChosen_ok (a + b) a (by omega) (by omega)
  have c2 := refChosen_ok (c + d) c (by omega) (by omega)
  have e2 : (bin (a + b) a : Int) * (bin (c + d) c : Int) = ((exW a b c d : Nat) : Int) := (Int.natCast_mul _ _).symm
  (refine fn_look s54_ok (by simp) (by intro k; simp only [go_sem, Nat.reduceEqDiff, ↓reduceIte, reduceCtorEq, Nat.reduceAdd, Nat.reduceMul, Int.reduceToNat, List.reduceReplicate, Nat.reduceLeDiff, Nat.reduceLT, Int.reduceLT, Int.reduceLE, Int.reduceEq]) fun S hS => cwp_sound _ _ _ _ ?_; simp (disch := omega) only [s54, go_sem, Nat.reduceEqDiff, ↓reduceIte, reduceCtorEq, Nat.reduceAdd, Nat.reduceMul, Int.reduceToNat, List.reduceReplicate, Nat.reduceLeDiff, Nat.reduceLT, Int.reduceLT, Int.reduceLE, Int.reduceEq])
  repeat' (first | (with_reducible refine in_seq ?_) | (with_reducible refine in_reg ?_) | (with_reducible refine in_block ?_) | (with_reducible refine in_cond ?_) | (with_reducible refine in_ret ?_) | (with_reducible refine in_skip ?_) | (simp (disch := omega) only [go_sem, Nat.reduceEqDiff, ↓reduceIte, reduceCtorEq, Nat.reduceAdd, Nat.reduceMul, Int.reduceToNat, List.reduceReplicate, Nat.reduceLeDiff, Nat.reduceLT, Int.reduceLT, Int.reduceLE, Int.reduceEq, e2]) | (with_reducible refine giv_intro fun _h => ?_) | (with_reducible refine alt_intro ?_ (fun _h => ?_)) | ((first | with_reducible refine br_dec (fun _h => ?_) (fun _h => ?_) | with_reducible refine br_ndec (fun _h => ?_) (fun _h => ?_)) <;> (first | (exfalso; omega) | simp only [decide_eq_false _h] | simp only [decide_eq_true _h] | skip)) | ((first | with_reducible refine br_not (fun _h => ?_) (fun _h => ?_) | with_reducible refine br_var (fun _h => ?_) (fun _h => ?_)) <;> (try simp only [_h])) | ((with_reducible apply call_D (c1)); (focus (simp (disch := omega) only [go_sem, Nat.reduceEqDiff, ↓reduceIte, reduceCtorEq, Nat.reduceAdd, Nat.reduceMul, Int.reduceToNat, List.reduceReplicate, Nat.reduceLeDiff, Nat.reduceLT, Int.reduceLT, Int.reduceLE, Int.reduceEq, e2]; (try rfl); done))) | ((with_reducible apply call_D (c2)); (focus (simp (disch := omega) only [go_sem, Nat.reduceEqDiff, ↓reduceIte, reduceCtorEq, Nat.reduceAdd, Nat.reduceMul, Int.reduceToNat, List.reduceReplicate, Nat.reduceLeDiff, Nat.reduceLT, Int.reduceLT, Int.reduceLE, Int.reduceEq, e2]; (try rfl); done))) | fail)
/-- ablaut/ablautref27.all: 1 parameters, 0 captured -/
def s55 : SC := .seq (.reg [⟨(some 1), .box 22 4 (.t 0), none⟩,
     ⟨(some 2), .mv (.c (.int .i64 0)), none⟩])
  (.seq (.reg [⟨(some 3), .iaddrA 4 1 (.t 1) (.c (.int .i64 0)), none⟩,
      ⟨(some 4), .load none (.t 3), none⟩,
      ⟨(some 5), .iaddrA 4 1 (.t 1) (.c (.int .i64 1)), none⟩,
      ⟨(some 6), .load none (.t 5), none⟩,
      ⟨(some 7), .bin .add (.t 4) (.t 6), none⟩,
      ⟨(some 8), .iaddrA 4 1 (.t 1) (.c (.int .i64 2)), none⟩,
      ⟨(some 9), .load none (.t 8), none⟩,
      ⟨(some 10), .bin .add (.t 7) (.t 9), none⟩,
      ⟨(some 11), .iaddrA 4 1 (.t 1) (.c (.int .i64 3)), none⟩,
      ⟨(some 12), .load none (.t 11), none⟩,
      ⟨(some 13), .bin .add (.t 10) (.t 12), none⟩,
      ⟨(some 14), .iaddrA 4 1 (.t 1) (.c (.int .i64 0)), none⟩,
      ⟨(some 15), .load none (.t 14), none⟩,
      ⟨(some 16), .iaddrA 4 1 (.t 1) (.c (.int .i64 2)), none⟩,
      ⟨(some 17), .load none (.t 16), none⟩,
      ⟨(some 18), .bin .add (.t 15) (.t 17), none⟩,
      ⟨(some 19), .call (.f 51) [(.t 13), (.t 18)], none⟩,
      ⟨(some 2), .mv (.t 19), none⟩])
   (.ret))
theorem s55_ok : lookF Try.prog 55 = some (s55, 20, [.tmp 2]) := by kernel_rfl
theorem rAll_ok (a b c d : Nat) (h : a + b + c + d ≤ 40) : Fn P 55 [tabA a b c d] (intA (allW a b c d : Nat)) := by
  have c1 := refChosen_ok (a + b + c + d) (a + c) (by omega) (by omega)
  (refine fn_look s55_ok (by simp) (by intro k; simp only [go_sem, Nat.reduceEqDiff, ↓reduceIte, reduceCtorEq, Nat.reduceAdd, Nat.reduceMul, Int.reduceToNat, List.reduceReplicate, Nat.reduceLeDiff, Nat.reduceLT, Int.reduceLT, Int.reduceLE, Int.reduceEq]) fun S hS => cwp_sound _ _ _ _ ?_; simp (disch := omega) only [s55, go_sem, Nat.reduceEqDiff, ↓reduceIte, reduceCtorEq, Nat.reduceAdd, Nat.reduceMul, Int.reduceToNat, List.reduceReplicate, Nat.reduceLeDiff, Nat.reduceLT, Int.reduceLT, Int.reduceLE, Int.reduceEq])
  repeat' (first | (with_reducible refine in_seq ?_) | (with_reducible refine in_reg ?_) | (with_reducible refine in_block ?_) | (with_reducible refine in_cond ?_) | (with_reducible refine in_ret ?_) | (with_reducible refine in_skip ?_) | (simp (disch := omega) only [go_sem, Nat.reduceEqDiff, ↓reduceIte, reduceCtorEq, Nat.reduceAdd, Nat.reduceMul, Int.reduceToNat, List.reduceReplicate, Nat.reduceLeDiff, Nat.reduceLT, Int.reduceLT, Int.reduceLE, Int.reduceEq]) | (with_reducible refine giv_intro fun _h => ?_) | (with_reducible refine alt_intro ?_ (fun _h => ?_)) | ((first | with_reducible refine br_dec (fun _h => ?_) (fun _h => ?_) | with_reducible refine br_ndec (fun _h => ?_) (fun _h => ?_)) <;> (first | (exfalso; omega) | simp only [decide_eq_false _h] | simp only [decide_eq_true _h] | skip)) | ((first | with_reducible refine br_not (fun _h => ?_) (fun _h => ?_) | with_reducible refine br_var (fun _h => ?_) (fun _h => ?_)) <;> (try simp only [_h])) | ((with_reducible apply call (c1)); (focus (simp (disch := omega) only [go_sem, Nat.reduceEqDiff, ↓reduceIte, reduceCtorEq, Nat.reduceAdd, Nat.reduceMul, Int.reduceToNat, List.reduceReplicate, Nat.reduceLeDiff, Nat.reduceLT, Int.reduceLT, Int.reduceLE, Int.reduceEq]; (try rfl); done))) | fail)
  rfl
/-- ablaut/ablautref27.tail: 1 parameters, 0 captured -/
def s56 : SC := .seq (.reg [⟨(some 1), .box 22 4 (.t 0), none⟩,
     ⟨(some 2), .mv (.c (.int .i64 0)), none⟩])
  (.seq (.reg [⟨(some 3), .mv (.c (.int .i64 0)), none⟩])
   (.seq (.block 0 (.loop (.seq (.seq (.reg [⟨(some 4), .iaddrA 4 1 (.t 1) (.c (.int .i64 1)), none⟩,
           ⟨(some 5), .load none (.t 4), none⟩,
           ⟨(some 6), .bin .geq (.t 5) (.c (.int .i64 0)), none⟩,
           ⟨(some 7), .mv (.t 6), none⟩,
           ⟨(some 8), .iaddrA 4 1 (.t 1) (.c (.int .i64 2)), some (7, true)⟩,
           ⟨(some 9), .load none (.t 8), some (7, true)⟩,
           ⟨(some 10), .bin .geq (.t 9) (.c (.int .i64 0)), some (7, true)⟩,
           ⟨(some 11), .pick (.t 7) (.t 10) (.c (.bool false)), none⟩])
        (.cond (.t 11) (.skip) (.exit 0)))
       (.block 1 (.seq (.reg [⟨(some 12), .mv (.t 3), none⟩,
            ⟨(some 13), .load (some 4) (.t 1), none⟩,
            ⟨(some 14), .call (.f 54) [(.t 13)], none⟩,
            ⟨(some 15), .bin .add (.t 12) (.t 14), none⟩,
            ⟨(some 3), .mv (.t 15), none⟩])
         (.reg [⟨(some 16), .iaddrA 4 1 (.t 1) (.c (.int .i64 0)), none⟩,
            ⟨(some 17), .load none (.t 16), none⟩,
            ⟨(some 18), .bin .add (.t 17) (.c (.int .i64 1)), none⟩,
            ⟨(some 19), .iaddrA 4 1 (.t 1) (.c (.int .i64 1)), none⟩,
            ⟨(some 20), .load none (.t 19), none⟩,
            ⟨(some 21), .bin .sub (.t 20) (.c (.int .i64 1)), none⟩,
            ⟨(some 22), .iaddrA 4 1 (.t 1) (.c (.int .i64 2)), none⟩,
            ⟨(some 23), .load none (.t 22), none⟩,
            ⟨(some 24), .bin .sub (.t 23) (.c (.int .i64 1)), none⟩,
            ⟨(some 25), .iaddrA 4 1 (.t 1) (.c (.int .i64 3)), none⟩,
            ⟨(some 26), .load none (.t 25), none⟩,
            ⟨(some 27), .bin .add (.t 26) (.c (.int .i64 1)), none⟩,
            ⟨(some 28), .build [(.int .i64 0), (.int .i64 0), (.int .i64 0), (.int .i64 0)] [(0, 1, (.t 18)), (1, 1, (.t 21)), (2, 1, (.t 24)), (3, 1, (.t 27))], none⟩,
            ⟨none, .store 4 (.t 1) (.t 28), none⟩]))))))
    (.seq (.reg [⟨(some 29), .mv (.t 3), none⟩,
        ⟨(some 2), .mv (.t 29), none⟩])
     (.ret))))
theorem s56_ok : lookF Try.prog 56 = some (s56, 30, [.tmp 2]) := by kernel_rfl
theorem rTail_ok (a b c d : Nat) (h : a + b + c + d ≤ 40) : Fn P 56 [tabA a b c d] (intA (tlW a b c d : Nat)) := by
  have htl := tlW_le a b c d h
  (refine fn_look s56_ok (by simp) (by intro k; simp only [go_sem, Nat.reduceEqDiff, ↓reduceIte, reduceCtorEq, Nat.reduceAdd, Nat.reduceMul, Int.reduceToNat, List.reduceReplicate, Nat.reduceLeDiff, Nat.reduceLT, Int.reduceLT, Int.reduceLE, Int.reduceEq]) fun S hS => cwp_sound _ _ _ _ ?_; simp (disch := omega) only [s56, go_sem, Nat.reduceEqDiff, ↓reduceIte, reduceCtorEq, Nat.reduceAdd, Nat.reduceMul, Int.reduceToNat, List.reduceReplicate, Nat.reduceLeDiff, Nat.reduceLT, Int.reduceLT, Int.reduceLE, Int.reduceEq])
  repeat' (first | (with_reducible refine in_seq ?_) | (with_reducible refine in_reg ?_) | (with_reducible refine in_block ?_) | (with_reducible refine in_cond ?_) | (with_reducible refine in_ret ?_) | (with_reducible refine in_skip ?_) | (simp (disch := omega) only [go_sem, Nat.reduceEqDiff, ↓reduceIte, reduceCtorEq, Nat.reduceAdd, Nat.reduceMul, Int.reduceToNat, List.reduceReplicate, Nat.reduceLeDiff, Nat.reduceLT, Int.reduceLT, Int.reduceLE, Int.reduceEq]) | (with_reducible refine giv_intro fun _h => ?_) | (with_reducible refine alt_intro ?_ (fun _h => ?_)) | ((first | with_reducible refine br_dec (fun _h => ?_) (fun _h => ?_) | with_reducible refine br_ndec (fun _h => ?_) (fun _h => ?_)) <;> (first | (exfalso; omega) | simp only [decide_eq_false _h] | simp only [decide_eq_true _h] | skip)) | ((first | with_reducible refine br_not (fun _h => ?_) (fun _h => ?_) | with_reducible refine br_var (fun _h => ?_) (fun _h => ?_)) <;> (try simp only [_h])) | fail)
  (refine loopC hS [1] (by simp only [go_sem, Nat.reduceEqDiff, ↓reduceIte, reduceCtorEq, Nat.reduceAdd, Nat.reduceMul, Int.reduceToNat, List.reduceReplicate, Nat.reduceLeDiff, Nat.reduceLT, Int.reduceLT, Int.reduceLE, Int.reduceEq]; try rfl) (fun (j : Nat) => [(3, intA (sumN (tlT a b c d) j : Nat))]) (fun (j : Nat) => [some (.row 22 4 [intA ((a : Int) + j), intA ((b : Int) - j), intA ((c : Int) - j), intA ((d : Int) + j)])]) (fun (j : Nat) => j ≤ min b c + 1) (fun (j : Nat) => min b c + 1 - j) (0) ?h01 ?hn1 ?rd1; case hn1 => (intro s; first | rfl | (rcases s with ⟨_, _⟩; rfl) | (rcases s with ⟨_, _, _⟩; rfl) | (rcases s with ⟨_, _, _, _⟩; rfl) | (rcases s with ⟨_, _, _, _, _⟩; rfl)))
  · simp (disch := omega) only [go_sem, Nat.reduceEqDiff, ↓reduceIte, reduceCtorEq, Nat.reduceAdd, Nat.reduceMul, Int.reduceToNat, List.reduceReplicate, Nat.reduceLeDiff, Nat.reduceLT, Int.reduceLT, Int.reduceLE, Int.reduceEq]; simp [sumN]
  · rintro j hj
    replace hj : j ≤ min b c + 1 := hj
    have hs := tlS_le a b c d j h hj
    by_cases hlt : j ≤ min b c
    · have eb : (b : Int) - j = ((b - j : Nat) : Int) := by omega
      have ec : (c : Int) - j = ((c - j : Nat) : Int) := by omega
      have c4 := rWays_ok (a + j) (b - j) (c - j) (d + j) (by omega)
      change Fn P _ _ (intA (tlT a b c d j : Nat)) at c4
      have ht := tlT_le a b c d j h hlt
      repeat' (first | (with_reducible refine in_seq ?_) | (with_reducible refine in_reg ?_) | (with_reducible refine in_block ?_) | (with_reducible refine in_cond ?_) | (with_reducible refine in_ret ?_) | (with_reducible refine in_skip ?_) | (simp (disch := omega) only [go_sem, Nat.reduceEqDiff, ↓reduceIte, reduceCtorEq, Nat.reduceAdd, Nat.reduceMul, Int.reduceToNat, List.reduceReplicate, Nat.reduceLeDiff, Nat.reduceLT, Int.reduceLT, Int.reduceLE, Int.reduceEq, eb, ec]) | (with_reducible refine giv_intro fun _h => ?_) | (with_reducible refine alt_intro ?_ (fun _h => ?_)) | ((first | with_reducible refine br_dec (fun _h => ?_) (fun _h => ?_) | with_reducible refine br_ndec (fun _h => ?_) (fun _h => ?_)) <;> (first | (exfalso; omega) | simp only [decide_eq_false _h] | simp only [decide_eq_true _h] | skip)) | ((first | with_reducible refine br_not (fun _h => ?_) (fun _h => ?_) | with_reducible refine br_var (fun _h => ?_) (fun _h => ?_)) <;> (try simp only [_h])) | ((with_reducible apply call (c4)); (focus (simp (disch := omega) only [go_sem, Nat.reduceEqDiff, ↓reduceIte, reduceCtorEq, Nat.reduceAdd, Nat.reduceMul, Int.reduceToNat, List.reduceReplicate, Nat.reduceLeDiff, Nat.reduceLT, Int.reduceLT, Int.reduceLE, Int.reduceEq, eb, ec]; (try rfl); done))) | fail)
      · refine ⟨j + 1, ⟨by omega, by omega⟩, by rw [sumN, Int.natCast_add], ?_⟩
        simp only [intA, List.cons.injEq, AV.sc.injEq, Value.int.injEq, and_true, true_and]
        omega
    · have e : j = min b c + 1 := by omega
      have hw : sumN (tlT a b c d) j = tlW a b c d := by rw [e]; rfl
      repeat' (first | (with_reducible refine in_seq ?_) | (with_reducible refine in_reg ?_) | (with_reducible refine in_block ?_) | (with_reducible refine in_cond ?_) | (with_reducible refine in_ret ?_) | (with_reducible refine in_skip ?_) | (simp (disch := omega) only [go_sem, Nat.reduceEqDiff, ↓reduceIte, reduceCtorEq, Nat.reduceAdd, Nat.reduceMul, Int.reduceToNat, List.reduceReplicate, Nat.reduceLeDiff, Nat.reduceLT, Int.reduceLT, Int.reduceLE, Int.reduceEq, hw]) | (with_reducible refine giv_intro fun _h => ?_) | (with_reducible refine alt_intro ?_ (fun _h => ?_)) | ((first | with_reducible refine br_dec (fun _h => ?_) (fun _h => ?_) | with_reducible refine br_ndec (fun _h => ?_) (fun _h => ?_)) <;> (first | (exfalso; omega) | simp only [decide_eq_false _h] | simp only [decide_eq_true _h] | skip)) | ((first | with_reducible refine br_not (fun _h => ?_) (fun _h => ?_) | with_reducible refine br_var (fun _h => ?_) (fun _h => ?_)) <;> (try simp only [_h])) | fail)
theorem okB_t (a b c d : Nat) (h : a + b + c + d ≤ 40) : okB a b c d = true := decide_eq_true (by unfold OkT; omega)
theorem okB_f {a b c d : Int} (h : ¬ OkT a b c d) : okB a b c d = false := decide_eq_false h
/-- ablaut/ablautref27.Exact: 1 parameters, 0 captured -/
def s19 : SC := .seq (.reg [⟨(some 1), .box 22 4 (.t 0), none⟩,
     ⟨(some 2), .alloc 27 2 [(.int .i64 0), (.int .i64 0)], none⟩,
     ⟨(some 3), .mv (.c (.int .i64 0)), none⟩])
  (.seq (.seq (.reg [⟨(some 4), .load (some 4) (.t 1), none⟩,
       ⟨(some 5), .call (.f 52) [(.t 4)], none⟩,
       ⟨(some 6), .un .not (.t 5), none⟩])
    (.cond (.t 6) (.seq (.reg [⟨(some 7), .build [(.int .i64 0), (.int .i64 0)] [], none⟩,
         ⟨none, .store 2 (.t 2) (.t 7), none⟩,
         ⟨(some 3), .mv (.c (.int .i64 1)), none⟩])
      (.ret)) (.skip)))
   (.seq (.regE [⟨(some 8), .load (some 4) (.t 1), none⟩,
       ⟨(some 9), .call (.f 54) [(.t 8)], none⟩,
       ⟨(some 10), .load (some 4) (.t 1), none⟩,
       ⟨(some 11), .call (.f 55) [(.t 10)], none⟩,
       ⟨(some 12), .call (.f 53) [(.t 9), (.t 11)], none⟩,
       ⟨none, .store 2 (.t 2) (.t 12), none⟩,
       ⟨(some 3), .mv (.c (.int .i64 0)), none⟩])
    (.ret)))
theorem s19_ok : lookF Try.prog 19 = some (s19, 13, [.cell 2 (some 2), .tmp 3]) := by kernel_rfl
theorem rExact_ok (a b c d : Nat) (h : a + b + c + d ≤ 40) : Fn P 19 [tabA a b c d] (.tup [frA ((exW a b c d / Nat.gcd (exW a b c d) (allW a b c d) : Nat) : Int) ((allW a b c d / Nat.gcd (exW a b c d) (allW a b c d) : Nat) : Int), intA 0]) := by
  have c1 := isTable_ok a b c d
  rw [okB_t a b c d h] at c1
  have c2 := rWays_ok a b c d h
  have c3 := rAll_ok a b c d h
  have hE := exW_le a b c d h
  have hA := allW_le a b c d h
  have c4 := refLeast_ok (exW a b c d) (allW a b c d) (Nat.gcd_pos_of_pos_right _ (allW_pos a b c d)) (by omega) (by omega)
  (refine fn_look s19_ok (by simp) (by intro k; simp only [go_sem, Nat.reduceEqDiff, ↓reduceIte, reduceCtorEq, Nat.reduceAdd, Nat.reduceMul, Int.reduceToNat, List.reduceReplicate, Nat.reduceLeDiff, Nat.reduceLT, Int.reduceLT, Int.reduceLE, Int.reduceEq]) fun S hS => cwp_sound _ _ _ _ ?_; simp (disch := omega) only [s19, go_sem, Nat.reduceEqDiff, ↓reduceIte, reduceCtorEq, Nat.reduceAdd, Nat.reduceMul, Int.reduceToNat, List.reduceReplicate, Nat.reduceLeDiff, Nat.reduceLT, Int.reduceLT, Int.reduceLE, Int.reduceEq])
  repeat' (first | (with_reducible refine in_seq ?_) | (with_reducible refine in_reg ?_) | (with_reducible refine in_block ?_) | (with_reducible refine in_cond ?_) | (with_reducible refine in_ret ?_) | (with_reducible refine in_skip ?_) | (simp (disch := omega) only [go_sem, Nat.reduceEqDiff, ↓reduceIte, reduceCtorEq, Nat.reduceAdd, Nat.reduceMul, Int.reduceToNat, List.reduceReplicate, Nat.reduceLeDiff, Nat.reduceLT, Int.reduceLT, Int.reduceLE, Int.reduceEq]) | (with_reducible refine giv_intro fun _h => ?_) | (with_reducible refine alt_intro ?_ (fun _h => ?_)) | ((first | with_reducible refine br_dec (fun _h => ?_) (fun _h => ?_) | with_reducible refine br_ndec (fun _h => ?_) (fun _h => ?_)) <;> (first | (exfalso; omega) | simp only [decide_eq_false _h] | simp only [decide_eq_true _h] | skip)) | ((first | with_reducible refine br_not (fun _h => ?_) (fun _h => ?_) | with_reducible refine br_var (fun _h => ?_) (fun _h => ?_)) <;> (try simp only [_h])) | ((with_reducible apply call (c1)); (focus (simp (disch := omega) only [go_sem, Nat.reduceEqDiff, ↓reduceIte, reduceCtorEq, Nat.reduceAdd, Nat.reduceMul, Int.reduceToNat, List.reduceReplicate, Nat.reduceLeDiff, Nat.reduceLT, Int.reduceLT, Int.reduceLE, Int.reduceEq]; (try rfl); done))) | ((with_reducible apply call_D (c2)); (focus (simp (disch := omega) only [go_sem, Nat.reduceEqDiff, ↓reduceIte, reduceCtorEq, Nat.reduceAdd, Nat.reduceMul, Int.reduceToNat, List.reduceReplicate, Nat.reduceLeDiff, Nat.reduceLT, Int.reduceLT, Int.reduceLE, Int.reduceEq]; (try rfl); done))) | ((with_reducible apply call_D (c3)); (focus (simp (disch := omega) only [go_sem, Nat.reduceEqDiff, ↓reduceIte, reduceCtorEq, Nat.reduceAdd, Nat.reduceMul, Int.reduceToNat, List.reduceReplicate, Nat.reduceLeDiff, Nat.reduceLT, Int.reduceLT, Int.reduceLE, Int.reduceEq]; (try rfl); done))) | ((with_reducible apply call_D (c4)); (focus (simp (disch := omega) only [go_sem, Nat.reduceEqDiff, ↓reduceIte, reduceCtorEq, Nat.reduceAdd, Nat.reduceMul, Int.reduceToNat, List.reduceReplicate, Nat.reduceLeDiff, Nat.reduceLT, Int.reduceLT, Int.reduceLE, Int.reduceEq]; (try rfl); done))) | fail)
theorem rExact_no (a b c d : Int) (h : ¬ OkT a b c d) : Fn P 19 [tabI a b c d] (.tup [frA 0 0, intA 1]) := by
  have c1 := isTable_ok a b c d
  rw [okB_f h] at c1
  (refine fn_look s19_ok (by simp) (by intro k; simp only [go_sem, Nat.reduceEqDiff, ↓reduceIte, reduceCtorEq, Nat.reduceAdd, Nat.reduceMul, Int.reduceToNat, List.reduceReplicate, Nat.reduceLeDiff, Nat.reduceLT, Int.reduceLT, Int.reduceLE, Int.reduceEq]) fun S hS => cwp_sound _ _ _ _ ?_; simp (disch := omega) only [s19, go_sem, Nat.reduceEqDiff, ↓reduceIte, reduceCtorEq, Nat.reduceAdd, Nat.reduceMul, Int.reduceToNat, List.reduceReplicate, Nat.reduceLeDiff, Nat.reduceLT, Int.reduceLT, Int.reduceLE, Int.reduceEq])
  repeat' (first | (with_reducible refine in_seq ?_) | (with_reducible refine in_reg ?_) | (with_reducible refine in_block ?_) | (with_reducible refine in_cond ?_) | (with_reducible refine in_ret ?_) | (with_reducible refine in_skip ?_) | (simp (disch := omega) only [go_sem, Nat.reduceEqDiff, ↓reduceIte, reduceCtorEq, Nat.reduceAdd, Nat.reduceMul, Int.reduceToNat, List.reduceReplicate, Nat.reduceLeDiff, Nat.reduceLT, Int.reduceLT, Int.reduceLE, Int.reduceEq]) | (with_reducible refine giv_intro fun _h => ?_) | (with_reducible refine alt_intro ?_ (fun _h => ?_)) | ((first | with_reducible refine br_dec (fun _h => ?_) (fun _h => ?_) | with_reducible refine br_ndec (fun _h => ?_) (fun _h => ?_)) <;> (first | (exfalso; omega) | simp only [decide_eq_false _h] | simp only [decide_eq_true _h] | skip)) | ((first | with_reducible refine br_not (fun _h => ?_) (fun _h => ?_) | with_reducible refine br_var (fun _h => ?_) (fun _h => ?_)) <;> (try simp only [_h])) | ((with_reducible apply call (c1)); (focus (simp (disch := omega) only [go_sem, Nat.reduceEqDiff, ↓reduceIte, reduceCtorEq, Nat.reduceAdd, Nat.reduceMul, Int.reduceToNat, List.reduceReplicate, Nat.reduceLeDiff, Nat.reduceLT, Int.reduceLT, Int.reduceLE, Int.reduceEq]; (try rfl); done))) | fail)
/-- ablaut/ablautref27.Tail: 1 parameters, 0 captured -/
def s20 : SC := .seq (.reg [⟨(some 1), .box 22 4 (.t 0), none⟩,
     ⟨(some 2), .alloc 27 2 [(.int .i64 0), (.int .i64 0)], none⟩,
     ⟨(some 3), .mv (.c (.int .i64 0)), none⟩])
  (.seq (.seq (.reg [⟨(some 4), .load (some 4) (.t 1), none⟩,
       ⟨(some 5), .call (.f 52) [(.t 4)], none⟩,
       ⟨(some 6), .un .not (.t 5), none⟩])
    (.cond (.t 6) (.seq (.reg [⟨(some 7), .build [(.int .i64 0), (.int .i64 0)] [], none⟩,
         ⟨none, .store 2 (.t 2) (.t 7), none⟩,
         ⟨(some 3), .mv (.c (.int .i64 1)), none⟩])
      (.ret)) (.skip)))
   (.seq (.regE [⟨(some 8), .load (some 4) (.t 1), none⟩,
       ⟨(some 9), .call (.f 56) [(.t 8)], none⟩,
       ⟨(some 10), .load (some 4) (.t 1), none⟩,
       ⟨(some 11), .call (.f 55) [(.t 10)], none⟩,
       ⟨(some 12), .call (.f 53) [(.t 9), (.t 11)], none⟩,
       ⟨none, .store 2 (.t 2) (.t 12), none⟩,
       ⟨(some 3), .mv (.c (.int .i64 0)), none⟩])
    (.ret)))
theorem s20_ok : lookF Try.prog 20 = some (s20, 13, [.cell 2 (some 2), .tmp 3]) := by kernel_rfl
theorem rTailF_ok (a b c d : Nat) (h : a + b + c + d ≤ 40) : Fn P 20 [tabA a b c d] (.tup [frA ((tlW a b c d / Nat.gcd (tlW a b c d) (allW a b c d) : Nat) : Int) ((allW a b c d / Nat.gcd (tlW a b c d) (allW a b c d) : Nat) : Int), intA 0]) := by
  have c1 := isTable_ok a b c d
  rw [okB_t a b c d h] at c1
  have c2 := rTail_ok a b c d h
  have c3 := rAll_ok a b c d h
  have hE := tlW_le a b c d h
  have hA := allW_le a b c d h
  have c4 := refLeast_ok (tlW a b c d) (allW a b c d) (Nat.gcd_pos_of_pos_right _ (allW_pos a b c d)) (by omega) (by omega)
  (refine fn_look s20_ok (by simp) (by intro k; simp only [go_sem, Nat.reduceEqDiff, ↓reduceIte, reduceCtorEq, Nat.reduceAdd, Nat.reduceMul, Int.reduceToNat, List.reduceReplicate, Nat.reduceLeDiff, Nat.reduceLT, Int.reduceLT, Int.reduceLE, Int.reduceEq]) fun S hS => cwp_sound _ _ _ _ ?_; simp (disch := omega) only [s20, go_sem, Nat.reduceEqDiff, ↓reduceIte, reduceCtorEq, Nat.reduceAdd, Nat.reduceMul, Int.reduceToNat, List.reduceReplicate, Nat.reduceLeDiff, Nat.reduceLT, Int.reduceLT, Int.reduceLE, Int.reduceEq])
  repeat' (first | (with_reducible refine in_seq ?_) | (with_reducible refine in_reg ?_) | (with_reducible refine in_block ?_) | (with_reducible refine in_cond ?_) | (with_reducible refine in_ret ?_) | (with_reducible refine in_skip ?_) | (simp (disch := omega) only [go_sem, Nat.reduceEqDiff, ↓reduceIte, reduceCtorEq, Nat.reduceAdd, Nat.reduceMul, Int.reduceToNat, List.reduceReplicate, Nat.reduceLeDiff, Nat.reduceLT, Int.reduceLT, Int.reduceLE, Int.reduceEq]) | (with_reducible refine giv_intro fun _h => ?_) | (with_reducible refine alt_intro ?_ (fun _h => ?_)) | ((first | with_reducible refine br_dec (fun _h => ?_) (fun _h => ?_) | with_reducible refine br_ndec (fun _h => ?_) (fun _h => ?_)) <;> (first | (exfalso; omega) | simp only [decide_eq_false _h] | simp only [decide_eq_true _h] | skip)) | ((first | with_reducible refine br_not (fun _h => ?_) (fun _h => ?_) | with_reducible refine br_var (fun _h => ?_) (fun _h => ?_)) <;> (try simp only [_h])) | ((with_reducible apply call (c1)); (focus (simp (disch := omega) only [go_sem, Nat.reduceEqDiff, ↓reduceIte, reduceCtorEq, Nat.reduceAdd, Nat.reduceMul, Int.reduceToNat, List.reduceReplicate, Nat.reduceLeDiff, Nat.reduceLT, Int.reduceLT, Int.reduceLE, Int.reduceEq]; (try rfl); done))) | ((with_reducible apply call_D (c2)); (focus (simp (disch := omega) only [go_sem, Nat.reduceEqDiff, ↓reduceIte, reduceCtorEq, Nat.reduceAdd, Nat.reduceMul, Int.reduceToNat, List.reduceReplicate, Nat.reduceLeDiff, Nat.reduceLT, Int.reduceLT, Int.reduceLE, Int.reduceEq]; (try rfl); done))) | ((with_reducible apply call_D (c3)); (focus (simp (disch := omega) only [go_sem, Nat.reduceEqDiff, ↓reduceIte, reduceCtorEq, Nat.reduceAdd, Nat.reduceMul, Int.reduceToNat, List.reduceReplicate, Nat.reduceLeDiff, Nat.reduceLT, Int.reduceLT, Int.reduceLE, Int.reduceEq]; (try rfl); done))) | ((with_reducible apply call_D (c4)); (focus (simp (disch := omega) only [go_sem, Nat.reduceEqDiff, ↓reduceIte, reduceCtorEq, Nat.reduceAdd, Nat.reduceMul, Int.reduceToNat, List.reduceReplicate, Nat.reduceLeDiff, Nat.reduceLT, Int.reduceLT, Int.reduceLE, Int.reduceEq]; (try rfl); done))) | fail)
theorem rTailF_no (a b c d : Int) (h : ¬ OkT a b c d) : Fn P 20 [tabI a b c d] (.tup [frA 0 0, intA 1]) := by
  have c1 := isTable_ok a b c d
  rw [okB_f h] at c1
  (refine fn_look s20_ok (by simp) (by intro k; simp only [go_sem, Nat.reduceEqDiff, ↓reduceIte, reduceCtorEq, Nat.reduceAdd, Nat.reduceMul, Int.reduceToNat, List.reduceReplicate, Nat.reduceLeDiff, Nat.reduceLT, Int.reduceLT, Int.reduceLE, Int.reduceEq]) fun S hS => cwp_sound _ _ _ _ ?_; simp (disch := omega) only [s20, go_sem, Nat.reduceEqDiff, ↓reduceIte, reduceCtorEq, Nat.reduceAdd, Nat.reduceMul, Int.reduceToNat, List.reduceReplicate, Nat.reduceLeDiff, Nat.reduceLT, Int.reduceLT, Int.reduceLE, Int.reduceEq])
  repeat' (first | (with_reducible refine in_seq ?_) | (with_reducible refine in_reg ?_) | (with_reducible refine in_block ?_) | (with_reducible refine in_cond ?_) | (with_reducible refine in_ret ?_) | (with_reducible refine in_skip ?_) | (simp (disch := omega) only [go_sem, Nat.reduceEqDiff, ↓reduceIte, reduceCtorEq, Nat.reduceAdd, Nat.reduceMul, Int.reduceToNat, List.reduceReplicate, Nat.reduceLeDiff, Nat.reduceLT, Int.reduceLT, Int.reduceLE, Int.reduceEq]) | (with_reducible refine giv_intro fun _h => ?_) | (with_reducible refine alt_intro ?_ (fun _h => ?_)) | ((first | with_reducible refine br_dec (fun _h => ?_) (fun _h => ?_) | with_reducible refine br_ndec (fun _h => ?_) (fun _h => ?_)) <;> (first | (exfalso; omega) | simp only [decide_eq_false _h] | simp only [decide_eq_true _h] | skip)) | ((first | with_reducible refine br_not (fun _h => ?_) (fun _h => ?_) | with_reducible refine br_var (fun _h => ?_) (fun _h => ?_)) <;> (try simp only [_h])) | ((with_reducible apply call (c1)); (focus (simp (disch := omega) only [go_sem, Nat.reduceEqDiff, ↓reduceIte, reduceCtorEq, Nat.reduceAdd, Nat.reduceMul, Int.reduceToNat, List.reduceReplicate, Nat.reduceLeDiff, Nat.reduceLT, Int.reduceLT, Int.reduceLE, Int.reduceEq]; (try rfl); done))) | fail)

/-! ### ratios -/
def rtN (x y : Nat) : Int := if y = 0 then 0 else ((x / Nat.gcd x y : Nat) : Int)
def rtD (x y : Nat) : Int := if y = 0 then 1 else ((y / Nat.gcd x y : Nat) : Int)
theorem rt_0 (x : Nat) : rtN x 0 = 0 ∧ rtD x 0 = 1 := ⟨rfl, rfl⟩
theorem rt_1 (x y : Nat) (h : y ≠ 0) : rtN x y = ((x / Nat.gcd x y : Nat) : Int) ∧ rtD x y = ((y / Nat.gcd x y : Nat) : Int) := ⟨if_neg h, if_neg h⟩
/-- ablaut/tally.over: 2 parameters, 0 captured -/
def s57 : SC := .seq (.reg [⟨(some 4), .alloc 27 2 [(.int .i64 0), (.int .i64 0)], none⟩,
     ⟨(some 5), .mv (.c (.bool false)), none⟩,
     ⟨(some 6), .mv (.c (.int .i64 0)), none⟩])
  (.seq (.seq (.reg [⟨(some 7), .mv (.t 1), none⟩,
       ⟨(some 8), .bin .eql (.t 7) (.c (.int .i64 0)), none⟩])
    (.cond (.t 8) (.seq (.reg [⟨(some 9), .build [(.int .i64 0), (.int .i64 0)] [(0, 1, (.c (.int .i64 0))), (1, 1, (.c (.int .i64 1)))], none⟩,
         ⟨none, .store 2 (.t 4) (.t 9), none⟩,
         ⟨(some 5), .mv (.c (.bool false)), none⟩,
         ⟨(some 6), .mv (.c (.int .i64 0)), none⟩])
      (.ret)) (.skip)))
   (.seq (.reg [⟨(some 10), .mv (.t 0), none⟩,
       ⟨(some 11), .mv (.t 1), none⟩,
       ⟨(some 12), .call (.f 49) [(.t 10), (.t 11)], none⟩,
       ⟨none, .store 2 (.t 4) (.t 12), none⟩,
       ⟨(some 5), .mv (.c (.bool true)), none⟩,
       ⟨(some 6), .mv (.c (.int .i64 0)), none⟩])
    (.ret)))
theorem s57_ok : lookF Try.prog 57 = some (s57, 13, [.cell 4 (some 2), .tmp 5, .tmp 6]) := by kernel_rfl
theorem over_0 (x : Nat) : Fn P 57 [intA x, intA (0 : Nat)] (.tup [frA 0 1, boolA false, intA 0]) := by
  (refine fn_look s57_ok (by simp) (by intro k; simp only [go_sem, Nat.reduceEqDiff, ↓reduceIte, reduceCtorEq, Nat.reduceAdd, Nat.reduceMul, Int.reduceToNat, List.reduceReplicate, Nat.reduceLeDiff, Nat.reduceLT, Int.reduceLT, Int.reduceLE, Int.reduceEq]) fun S hS => cwp_sound _ _ _ _ ?_; simp (disch := omega) only [s57, go_sem, Nat.reduceEqDiff, ↓reduceIte, reduceCtorEq, Nat.reduceAdd, Nat.reduceMul, Int.reduceToNat, List.reduceReplicate, Nat.reduceLeDiff, Nat.reduceLT, Int.reduceLT, Int.reduceLE, Int.reduceEq])
  repeat' (first | (with_reducible refine in_seq ?_) | (with_reducible refine in_reg ?_) | (with_reducible refine in_block ?_) | (with_reducible refine in_cond ?_) | (with_reducible refine in_ret ?_) | (with_reducible refine in_skip ?_) | (simp (disch := omega) only [go_sem, Nat.reduceEqDiff, ↓reduceIte, reduceCtorEq, Nat.reduceAdd, Nat.reduceMul, Int.reduceToNat, List.reduceReplicate, Nat.reduceLeDiff, Nat.reduceLT, Int.reduceLT, Int.reduceLE, Int.reduceEq]) | (with_reducible refine giv_intro fun _h => ?_) | (with_reducible refine alt_intro ?_ (fun _h => ?_)) | ((first | with_reducible refine br_dec (fun _h => ?_) (fun _h => ?_) | with_reducible refine br_ndec (fun _h => ?_) (fun _h => ?_)) <;> (first | (exfalso; omega) | simp only [decide_eq_false _h] | simp only [decide_eq_true _h] | skip)) | ((first | with_reducible refine br_not (fun _h => ?_) (fun _h => ?_) | with_reducible refine br_var (fun _h => ?_) (fun _h => ?_)) <;> (try simp only [_h])) | fail)
theorem over_1 (x y : Nat) (h : y ≠ 0) (hx : x ≤ 9223372036854775807) (hy : y ≤ 9223372036854775807) : Fn P 57 [intA x, intA y] (.tup [frA ((x / Nat.gcd x y : Nat) : Int) ((y / Nat.gcd x y : Nat) : Int), boolA true, intA 0]) := by
  have c1 := share_ok x y (Nat.gcd_pos_of_pos_right _ (by omega)) hx hy
  (refine fn_look s57_ok (by simp) (by intro k; simp only [go_sem, Nat.reduceEqDiff, ↓reduceIte, reduceCtorEq, Nat.reduceAdd, Nat.reduceMul, Int.reduceToNat, List.reduceReplicate, Nat.reduceLeDiff, Nat.reduceLT, Int.reduceLT, Int.reduceLE, Int.reduceEq]) fun S hS => cwp_sound _ _ _ _ ?_; simp (disch := omega) only [s57, go_sem, Nat.reduceEqDiff, ↓reduceIte, reduceCtorEq, Nat.reduceAdd, Nat.reduceMul, Int.reduceToNat, List.reduceReplicate, Nat.reduceLeDiff, Nat.reduceLT, Int.reduceLT, Int.reduceLE, Int.reduceEq])
  repeat' (first | (with_reducible refine in_seq ?_) | (with_reducible refine in_reg ?_) | (with_reducible refine in_block ?_) | (with_reducible refine in_cond ?_) | (with_reducible refine in_ret ?_) | (with_reducible refine in_skip ?_) | (simp (disch := omega) only [go_sem, Nat.reduceEqDiff, ↓reduceIte, reduceCtorEq, Nat.reduceAdd, Nat.reduceMul, Int.reduceToNat, List.reduceReplicate, Nat.reduceLeDiff, Nat.reduceLT, Int.reduceLT, Int.reduceLE, Int.reduceEq]) | (with_reducible refine giv_intro fun _h => ?_) | (with_reducible refine alt_intro ?_ (fun _h => ?_)) | ((first | with_reducible refine br_dec (fun _h => ?_) (fun _h => ?_) | with_reducible refine br_ndec (fun _h => ?_) (fun _h => ?_)) <;> (first | (exfalso; omega) | simp only [decide_eq_false _h] | simp only [decide_eq_true _h] | skip)) | ((first | with_reducible refine br_not (fun _h => ?_) (fun _h => ?_) | with_reducible refine br_var (fun _h => ?_) (fun _h => ?_)) <;> (try simp only [_h])) | ((with_reducible apply call (c1)); (focus (simp (disch := omega) only [go_sem, Nat.reduceEqDiff, ↓reduceIte, reduceCtorEq, Nat.reduceAdd, Nat.reduceMul, Int.reduceToNat, List.reduceReplicate, Nat.reduceLeDiff, Nat.reduceLT, Int.reduceLT, Int.reduceLE, Int.reduceEq]; (try rfl); done))) | fail)
theorem over_ok (x y : Nat) (hx : x ≤ 9223372036854775807) (hy : y ≤ 9223372036854775807) : Fn P 57 [intA x, intA y] (.tup [frA (rtN x y) (rtD x y), boolA (decide (y ≠ 0)), intA 0]) := by
  by_cases h0 : y = 0
  · subst h0; exact over_0 x
  · have := over_1 x y h0 hx hy
    rw [(rt_1 x y h0).1, (rt_1 x y h0).2, decide_eq_true h0]; exact this
/-- ablaut/ablautref27.part: 3 parameters, 0 captured -/
def s58 : SC := .seq (.reg [⟨(some 3), .box 22 4 (.t 0), none⟩,
     ⟨(some 6), .alloc 27 2 [(.int .i64 0), (.int .i64 0)], none⟩,
     ⟨(some 7), .mv (.c (.bool false)), none⟩,
     ⟨(some 8), .mv (.c (.int .i64 0)), none⟩])
  (.seq (.seq (.reg [⟨(some 9), .load (some 4) (.t 3), none⟩,
       ⟨(some 10), .call (.f 52) [(.t 9)], none⟩,
       ⟨(some 11), .un .not (.t 10), none⟩])
    (.cond (.t 11) (.seq (.reg [⟨(some 12), .build [(.int .i64 0), (.int .i64 0)] [], none⟩,
         ⟨none, .store 2 (.t 6) (.t 12), none⟩,
         ⟨(some 7), .mv (.c (.bool false)), none⟩,
         ⟨(some 8), .mv (.c (.int .i64 1)), none⟩])
      (.ret)) (.skip)))
   (.seq (.seq (.reg [⟨(some 13), .mv (.t 2), none⟩,
        ⟨(some 14), .bin .eql (.t 13) (.c (.int .i64 0)), none⟩])
     (.cond (.t 14) (.seq (.reg [⟨(some 15), .build [(.int .i64 0), (.int .i64 0)] [(0, 1, (.c (.int .i64 0))), (1, 1, (.c (.int .i64 1)))], none⟩,
          ⟨none, .store 2 (.t 6) (.t 15), none⟩,
          ⟨(some 7), .mv (.c (.bool false)), none⟩,
          ⟨(some 8), .mv (.c (.int .i64 0)), none⟩])
       (.ret)) (.skip)))
    (.seq (.reg [⟨(some 16), .mv (.t 1), none⟩,
        ⟨(some 17), .mv (.t 2), none⟩,
        ⟨(some 18), .call (.f 53) [(.t 16), (.t 17)], none⟩,
        ⟨none, .store 2 (.t 6) (.t 18), none⟩,
        ⟨(some 7), .mv (.c (.bool true)), none⟩,
        ⟨(some 8), .mv (.c (.int .i64 0)), none⟩])
     (.ret))))
theorem s58_ok : lookF Try.prog 58 = some (s58, 19, [.cell 6 (some 2), .tmp 7, .tmp 8]) := by kernel_rfl
theorem rPart_0 (a b c d : Int) (h : OkT a b c d) (x : Nat) : Fn P 58 [tabI a b c d, intA x, intA (0 : Nat)] (.tup [frA 0 1, boolA false, intA 0]) := by
  have c0 := isTable_ok a b c d
  rw [show okB a b c d = true from decide_eq_true h] at c0
  (refine fn_look s58_ok (by simp) (by intro k; simp only [go_sem, Nat.reduceEqDiff, ↓reduceIte, reduceCtorEq, Nat.reduceAdd, Nat.reduceMul, Int.reduceToNat, List.reduceReplicate, Nat.reduceLeDiff, Nat.reduceLT, Int.reduceLT, Int.reduceLE, Int.reduceEq]) fun S hS => cwp_sound _ _ _ _ ?_; simp (disch := omega) only [s58, go_sem, Nat.reduceEqDiff, ↓reduceIte, reduceCtorEq, Nat.reduceAdd, Nat.reduceMul, Int.reduceToNat, List.reduceReplicate, Nat.reduceLeDiff, Nat.reduceLT, Int.reduceLT, Int.reduceLE, Int.reduceEq])
  repeat' (first | (with_reducible refine in_seq ?_) | (with_reducible refine in_reg ?_) | (with_reducible refine in_block ?_) | (with_reducible refine in_cond ?_) | (with_reducible refine in_ret ?_) | (with_reducible refine in_skip ?_) | (simp (disch := omega) only [go_sem, Nat.reduceEqDiff, ↓reduceIte, reduceCtorEq, Nat.reduceAdd, Nat.reduceMul, Int.reduceToNat, List.reduceReplicate, Nat.reduceLeDiff, Nat.reduceLT, Int.reduceLT, Int.reduceLE, Int.reduceEq]) | (with_reducible refine giv_intro fun _h => ?_) | (with_reducible refine alt_intro ?_ (fun _h => ?_)) | ((first | with_reducible refine br_dec (fun _h => ?_) (fun _h => ?_) | with_reducible refine br_ndec (fun _h => ?_) (fun _h => ?_)) <;> (first | (exfalso; omega) | simp only [decide_eq_false _h] | simp only [decide_eq_true _h] | skip)) | ((first | with_reducible refine br_not (fun _h => ?_) (fun _h => ?_) | with_reducible refine br_var (fun _h => ?_) (fun _h => ?_)) <;> (try simp only [_h])) | ((with_reducible apply call (c0)); (focus (simp (disch := omega) only [go_sem, Nat.reduceEqDiff, ↓reduceIte, reduceCtorEq, Nat.reduceAdd, Nat.reduceMul, Int.reduceToNat, List.reduceReplicate, Nat.reduceLeDiff, Nat.reduceLT, Int.reduceLT, Int.reduceLE, Int.reduceEq]; (try rfl); done))) | fail)
theorem rPart_1 (a b c d : Int) (h : OkT a b c d) (x y : Nat) (h0 : y ≠ 0) (hx : x ≤ 9223372036854775807) (hy : y ≤ 9223372036854775807) : Fn P 58 [tabI a b c d, intA x, intA y] (.tup [frA ((x / Nat.gcd x y : Nat) : Int) ((y / Nat.gcd x y : Nat) : Int), boolA true, intA 0]) := by
  have c0 := isTable_ok a b c d
  rw [show okB a b c d = true from decide_eq_true h] at c0
  have c1 := refLeast_ok x y (Nat.gcd_pos_of_pos_right _ (by omega)) hx hy
  (refine fn_look s58_ok (by simp) (by intro k; simp only [go_sem, Nat.reduceEqDiff, ↓reduceIte, reduceCtorEq, Nat.reduceAdd, Nat.reduceMul, Int.reduceToNat, List.reduceReplicate, Nat.reduceLeDiff, Nat.reduceLT, Int.reduceLT, Int.reduceLE, Int.reduceEq]) fun S hS => cwp_sound _ _ _ _ ?_; simp (disch := omega) only [s58, go_sem, Nat.reduceEqDiff, ↓reduceIte, reduceCtorEq, Nat.reduceAdd, Nat.reduceMul, Int.reduceToNat, List.reduceReplicate, Nat.reduceLeDiff, Nat.reduceLT, Int.reduceLT, Int.reduceLE, Int.reduceEq])
  repeat' (first | (with_reducible refine in_seq ?_) | (with_reducible refine in_reg ?_) | (with_reducible refine in_block ?_) | (with_reducible refine in_cond ?_) | (with_reducible refine in_ret ?_) | (with_reducible refine in_skip ?_) | (simp (disch := omega) only [go_sem, Nat.reduceEqDiff, ↓reduceIte, reduceCtorEq, Nat.reduceAdd, Nat.reduceMul, Int.reduceToNat, List.reduceReplicate, Nat.reduceLeDiff, Nat.reduceLT, Int.reduceLT, Int.reduceLE, Int.reduceEq]) | (with_reducible refine giv_intro fun _h => ?_) | (with_reducible refine alt_intro ?_ (fun _h => ?_)) | ((first | with_reducible refine br_dec (fun _h => ?_) (fun _h => ?_) | with_reducible refine br_ndec (fun _h => ?_) (fun _h => ?_)) <;> (first | (exfalso; omega) | simp only [decide_eq_false _h] | simp only [decide_eq_true _h] | skip)) | ((first | with_reducible refine br_not (fun _h => ?_) (fun _h => ?_) | with_reducible refine br_var (fun _h => ?_) (fun _h => ?_)) <;> (try simp only [_h])) | ((with_reducible apply call (c0)); (focus (simp (disch := omega) only [go_sem, Nat.reduceEqDiff, ↓reduceIte, reduceCtorEq, Nat.reduceAdd, Nat.reduceMul, Int.reduceToNat, List.reduceReplicate, Nat.reduceLeDiff, Nat.reduceLT, Int.reduceLT, Int.reduceLE, Int.reduceEq]; (try rfl); done))) | ((with_reducible apply call (c1)); (focus (simp (disch := omega) only [go_sem, Nat.reduceEqDiff, ↓reduceIte, reduceCtorEq, Nat.reduceAdd, Nat.reduceMul, Int.reduceToNat, List.reduceReplicate, Nat.reduceLeDiff, Nat.reduceLT, Int.reduceLT, Int.reduceLE, Int.reduceEq]; (try rfl); done))) | fail)
theorem rPart_ok (a b c d : Int) (h : OkT a b c d) (x y : Nat) (hx : x ≤ 9223372036854775807) (hy : y ≤ 9223372036854775807) : Fn P 58 [tabI a b c d, intA x, intA y] (.tup [frA (rtN x y) (rtD x y), boolA (decide (y ≠ 0)), intA 0]) := by
  by_cases h0 : y = 0
  · subst h0; exact rPart_0 a b c d h x
  · have := rPart_1 a b c d h x y h0 hx hy
    rw [(rt_1 x y h0).1, (rt_1 x y h0).2, decide_eq_true h0]; exact this
theorem rPart_no (a b c d x y : Int) (h : ¬ OkT a b c d) : Fn P 58 [tabI a b c d, intA x, intA y] (.tup [frA 0 0, boolA false, intA 1]) := by
  have c0 := isTable_ok a b c d
  rw [okB_f h] at c0
  (refine fn_look s58_ok (by simp) (by intro k; simp only [go_sem, Nat.reduceEqDiff, ↓reduceIte, reduceCtorEq, Nat.reduceAdd, Nat.reduceMul, Int.reduceToNat, List.reduceReplicate, Nat.reduceLeDiff, Nat.reduceLT, Int.reduceLT, Int.reduceLE, Int.reduceEq]) fun S hS => cwp_sound _ _ _ _ ?_; simp (disch := omega) only [s58, go_sem, Nat.reduceEqDiff, ↓reduceIte, reduceCtorEq, Nat.reduceAdd, Nat.reduceMul, Int.reduceToNat, List.reduceReplicate, Nat.reduceLeDiff, Nat.reduceLT, Int.reduceLT, Int.reduceLE, Int.reduceEq])
  repeat' (first | (with_reducible refine in_seq ?_) | (with_reducible refine in_reg ?_) | (with_reducible refine in_block ?_) | (with_reducible refine in_cond ?_) | (with_reducible refine in_ret ?_) | (with_reducible refine in_skip ?_) | (simp (disch := omega) only [go_sem, Nat.reduceEqDiff, ↓reduceIte, reduceCtorEq, Nat.reduceAdd, Nat.reduceMul, Int.reduceToNat, List.reduceReplicate, Nat.reduceLeDiff, Nat.reduceLT, Int.reduceLT, Int.reduceLE, Int.reduceEq]) | (with_reducible refine giv_intro fun _h => ?_) | (with_reducible refine alt_intro ?_ (fun _h => ?_)) | ((first | with_reducible refine br_dec (fun _h => ?_) (fun _h => ?_) | with_reducible refine br_ndec (fun _h => ?_) (fun _h => ?_)) <;> (first | (exfalso; omega) | simp only [decide_eq_false _h] | simp only [decide_eq_true _h] | skip)) | ((first | with_reducible refine br_not (fun _h => ?_) (fun _h => ?_) | with_reducible refine br_var (fun _h => ?_) (fun _h => ?_)) <;> (try simp only [_h])) | ((with_reducible apply call (c0)); (focus (simp (disch := omega) only [go_sem, Nat.reduceEqDiff, ↓reduceIte, reduceCtorEq, Nat.reduceAdd, Nat.reduceMul, Int.reduceToNat, List.reduceReplicate, Nat.reduceLeDiff, Nat.reduceLT, Int.reduceLT, Int.reduceLE, Int.reduceEq]; (try rfl); done))) | fail)

def raX (a b c d : Nat) : Nat := a * (a + b + c + d)
def raY (a b c d : Nat) : Nat := (a + b) * (a + c)
theorem raX_le (a b c d : Nat) (h : a + b + c + d ≤ 40) : raX a b c d ≤ 1600 := Nat.mul_le_mul (show a ≤ 40 by omega) h
theorem raY_le (a b c d : Nat) (h : a + b + c + d ≤ 40) : raY a b c d ≤ 1600 := Nat.mul_le_mul (show a + b ≤ 40 by omega) (show a + c ≤ 40 by omega)
theorem raX_eq (a b c d : Nat) : (a : Int) * ((a : Int) + b + c + d) = ((raX a b c d : Nat) : Int) := by simp [raX, Int.natCast_mul, Int.natCast_add]
theorem raY_eq (a b c d : Nat) : ((a : Int) + b) * ((a : Int) + c) = ((raY a b c d : Nat) : Int) := by simp [raY, Int.natCast_mul, Int.natCast_add]
/-- ablaut/tally.Ratio: 1 parameters, 0 captured -/
def s21 : SC := .seq (.reg [⟨(some 1), .box 22 4 (.t 0), none⟩,
     ⟨(some 2), .alloc 27 2 [(.int .i64 0), (.int .i64 0)], none⟩,
     ⟨(some 3), .mv (.c (.bool false)), none⟩,
     ⟨(some 4), .mv (.c (.int .i64 0)), none⟩])
  (.seq (.seq (.reg [⟨(some 10), .load (some 4) (.t 1), none⟩,
       ⟨(some 11), .call (.f 47) [(.t 10)], none⟩,
       ⟨(some 5), .mv (.t 11), none⟩])
    (.seq (.reg [⟨(some 12), .mv (.t 5), none⟩,
        ⟨(some 13), .bin .neq (.t 12) (.c (.int .i64 0)), none⟩])
     (.cond (.t 13) (.seq (.reg [⟨(some 14), .build [(.int .i64 0), (.int .i64 0)] [], none⟩,
          ⟨(some 15), .mv (.t 5), none⟩,
          ⟨none, .store 2 (.t 2) (.t 14), none⟩,
          ⟨(some 3), .mv (.c (.bool false)), none⟩,
          ⟨(some 4), .mv (.t 15), none⟩])
       (.ret)) (.skip))))
   (.seq (.regD [⟨(some 16), .iaddrA 4 1 (.t 1) (.c (.int .i64 0)), none⟩,
       ⟨(some 17), .load none (.t 16), none⟩,
       ⟨(some 18), .iaddrA 4 1 (.t 1) (.c (.int .i64 1)), none⟩,
       ⟨(some 19), .load none (.t 18), none⟩,
       ⟨(some 20), .iaddrA 4 1 (.t 1) (.c (.int .i64 2)), none⟩,
       ⟨(some 21), .load none (.t 20), none⟩,
       ⟨(some 22), .iaddrA 4 1 (.t 1) (.c (.int .i64 3)), none⟩,
       ⟨(some 23), .load none (.t 22), none⟩,
       ⟨(some 6), .mv (.t 17), none⟩,
       ⟨(some 7), .mv (.t 19), none⟩,
       ⟨(some 8), .mv (.t 21), none⟩,
       ⟨(some 9), .mv (.t 23), none⟩])
    (.seq (.reg [⟨(some 24), .mv (.t 6), none⟩,
        ⟨(some 25), .mv (.t 6), none⟩,
        ⟨(some 26), .mv (.t 7), none⟩,
        ⟨(some 27), .bin .add (.t 25) (.t 26), none⟩,
        ⟨(some 28), .mv (.t 8), none⟩,
        ⟨(some 29), .bin .add (.t 27) (.t 28), none⟩,
        ⟨(some 30), .mv (.t 9), none⟩,
        ⟨(some 31), .bin .add (.t 29) (.t 30), none⟩,
        ⟨(some 32), .bin .mul (.t 24) (.t 31), none⟩,
        ⟨(some 33), .mv (.t 6), none⟩,
        ⟨(some 34), .mv (.t 7), none⟩,
        ⟨(some 35), .bin .add (.t 33) (.t 34), none⟩,
        ⟨(some 36), .mv (.t 6), none⟩,
        ⟨(some 37), .mv (.t 8), none⟩,
        ⟨(some 38), .bin .add (.t 36) (.t 37), none⟩,
        ⟨(some 39), .bin .mul (.t 35) (.t 38), none⟩,
        ⟨(some 40), .call (.f 57) [(.t 32), (.t 39)], none⟩,
        ⟨(some 41), .ext (.t 40) 0, none⟩,
        ⟨(some 42), .ext (.t 40) 1, none⟩,
        ⟨(some 43), .ext (.t 40) 2, none⟩,
        ⟨none, .store 2 (.t 2) (.t 41), none⟩,
        ⟨(some 3), .mv (.t 42), none⟩,
        ⟨(some 4), .mv (.t 43), none⟩])
     (.ret))))
theorem s21_ok : lookF Try.prog 21 = some (s21, 44, [.cell 2 (some 2), .tmp 3, .tmp 4]) := by kernel_rfl
theorem Ratio_ok (a b c d : Nat) (h : a + b + c + d ≤ 40) : Fn P 21 [tabA a b c d] (.tup [frA (rtN (raX a b c d) (raY a b c d)) (rtD (raX a b c d) (raY a b c d)), boolA (decide (raY a b c d ≠ 0)), intA 0]) := by
  have c0 := four_ok a b c d
  rw [bad_ok a b c d h] at c0
  have h1 := raX_le a b c d h
  have h2 := raY_le a b c d h
  have e1 := raX_eq a b c d
  have e2 := raY_eq a b c d
  have c1 := over_ok (raX a b c d) (raY a b c d) (by omega) (by omega)
  (refine fn_look s21_ok (by simp) (by intro k; simp only [go_sem, Nat.reduceEqDiff, ↓reduceIte, reduceCtorEq, Nat.reduceAdd, Nat.reduceMul, Int.reduceToNat, List.reduceReplicate, Nat.reduceLeDiff, Nat.reduceLT, Int.reduceLT, Int.reduceLE, Int.reduceEq]) fun S hS => cwp_sound _ _ _ _ ?_; simp (disch := omega) only [s21, go_sem, Nat.reduceEqDiff, ↓reduceIte, reduceCtorEq, Nat.reduceAdd, Nat.reduceMul, Int.reduceToNat, List.reduceReplicate, Nat.reduceLeDiff, Nat.reduceLT, Int.reduceLT, Int.reduceLE, Int.reduceEq])
  repeat' (first | (with_reducible refine in_seq ?_) | (with_reducible refine in_reg ?_) | (with_reducible refine in_block ?_) | (with_reducible refine in_cond ?_) | (with_reducible refine in_ret ?_) | (with_reducible refine in_skip ?_) | (simp (disch := omega) only [go_sem, Nat.reduceEqDiff, ↓reduceIte, reduceCtorEq, Nat.reduceAdd, Nat.reduceMul, Int.reduceToNat, List.reduceReplicate, Nat.reduceLeDiff, Nat.reduceLT, Int.reduceLT, Int.reduceLE, Int.reduceEq, e1, e2]) | (with_reducible refine giv_intro fun _h => ?_) | (with_reducible refine alt_intro ?_ (fun _h => ?_)) | ((first | with_reducible refine br_dec (fun _h => ?_) (fun _h => ?_) | with_reducible refine br_ndec (fun _h => ?_) (fun _h => ?_)) <;> (first | (exfalso; omega) | simp only [decide_eq_false _h] | simp only [decide_eq_true _h] | skip)) | ((first | with_reducible refine br_not (fun _h => ?_) (fun _h => ?_) | with_reducible refine br_var (fun _h => ?_) (fun _h => ?_)) <;> (try simp only [_h])) | ((with_reducible apply call (c0)); (focus (simp (disch := omega) only [go_sem, Nat.reduceEqDiff, ↓reduceIte, reduceCtorEq, Nat.reduceAdd, Nat.reduceMul, Int.reduceToNat, List.reduceReplicate, Nat.reduceLeDiff, Nat.reduceLT, Int.reduceLT, Int.reduceLE, Int.reduceEq, e1, e2]; (try rfl); done))) | ((with_reducible apply call (c1)); (focus (simp (disch := omega) only [go_sem, Nat.reduceEqDiff, ↓reduceIte, reduceCtorEq, Nat.reduceAdd, Nat.reduceMul, Int.reduceToNat, List.reduceReplicate, Nat.reduceLeDiff, Nat.reduceLT, Int.reduceLT, Int.reduceLE, Int.reduceEq, e1, e2]; (try rfl); done))) | fail)
theorem Ratio_no (a b c d : Int) (h : ¬ OkT a b c d) : Fn P 21 [tabI a b c d] (.tup [frA 0 0, boolA false, intA 1]) := by
  have c0 := four_ok a b c d
  rw [bad_1 h] at c0
  (refine fn_look s21_ok (by simp) (by intro k; simp only [go_sem, Nat.reduceEqDiff, ↓reduceIte, reduceCtorEq, Nat.reduceAdd, Nat.reduceMul, Int.reduceToNat, List.reduceReplicate, Nat.reduceLeDiff, Nat.reduceLT, Int.reduceLT, Int.reduceLE, Int.reduceEq]) fun S hS => cwp_sound _ _ _ _ ?_; simp (disch := omega) only [s21, go_sem, Nat.reduceEqDiff, ↓reduceIte, reduceCtorEq, Nat.reduceAdd, Nat.reduceMul, Int.reduceToNat, List.reduceReplicate, Nat.reduceLeDiff, Nat.reduceLT, Int.reduceLT, Int.reduceLE, Int.reduceEq])
  repeat' (first | (with_reducible refine in_seq ?_) | (with_reducible refine in_reg ?_) | (with_reducible refine in_block ?_) | (with_reducible refine in_cond ?_) | (with_reducible refine in_ret ?_) | (with_reducible refine in_skip ?_) | (simp (disch := omega) only [go_sem, Nat.reduceEqDiff, ↓reduceIte, reduceCtorEq, Nat.reduceAdd, Nat.reduceMul, Int.reduceToNat, List.reduceReplicate, Nat.reduceLeDiff, Nat.reduceLT, Int.reduceLT, Int.reduceLE, Int.reduceEq]) | (with_reducible refine giv_intro fun _h => ?_) | (with_reducible refine alt_intro ?_ (fun _h => ?_)) | ((first | with_reducible refine br_dec (fun _h => ?_) (fun _h => ?_) | with_reducible refine br_ndec (fun _h => ?_) (fun _h => ?_)) <;> (first | (exfalso; omega) | simp only [decide_eq_false _h] | simp only [decide_eq_true _h] | skip)) | ((first | with_reducible refine br_not (fun _h => ?_) (fun _h => ?_) | with_reducible refine br_var (fun _h => ?_) (fun _h => ?_)) <;> (try simp only [_h])) | ((with_reducible apply call (c0)); (focus (simp (disch := omega) only [go_sem, Nat.reduceEqDiff, ↓reduceIte, reduceCtorEq, Nat.reduceAdd, Nat.reduceMul, Int.reduceToNat, List.reduceReplicate, Nat.reduceLeDiff, Nat.reduceLT, Int.reduceLT, Int.reduceLE, Int.reduceEq]; (try rfl); done))) | fail)
/-- ablaut/ablautref27.Ratio: 1 parameters, 0 captured -/
def s22 : SC := .seq (.reg [⟨(some 1), .box 22 4 (.t 0), none⟩,
     ⟨(some 2), .alloc 27 2 [(.int .i64 0), (.int .i64 0)], none⟩,
     ⟨(some 3), .mv (.c (.bool false)), none⟩,
     ⟨(some 4), .mv (.c (.int .i64 0)), none⟩])
  (.seq (.seq (.reg [⟨(some 5), .load (some 4) (.t 1), none⟩,
       ⟨(some 6), .call (.f 52) [(.t 5)], none⟩,
       ⟨(some 7), .un .not (.t 6), none⟩])
    (.cond (.t 7) (.seq (.reg [⟨(some 8), .load (some 4) (.t 1), none⟩,
         ⟨(some 9), .call (.f 58) [(.t 8), (.c (.int .i64 0)), (.c (.int .i64 0))], none⟩,
         ⟨(some 10), .ext (.t 9) 0, none⟩,
         ⟨(some 11), .ext (.t 9) 1, none⟩,
         ⟨(some 12), .ext (.t 9) 2, none⟩,
         ⟨none, .store 2 (.t 2) (.t 10), none⟩,
         ⟨(some 3), .mv (.t 11), none⟩,
         ⟨(some 4), .mv (.t 12), none⟩])
      (.ret)) (.skip)))
   (.seq (.reg [⟨(some 13), .load (some 4) (.t 1), none⟩,
       ⟨(some 14), .iaddrA 4 1 (.t 1) (.c (.int .i64 0)), none⟩,
       ⟨(some 15), .load none (.t 14), none⟩,
       ⟨(some 16), .iaddrA 4 1 (.t 1) (.c (.int .i64 0)), none⟩,
       ⟨(some 17), .load none (.t 16), none⟩,
       ⟨(some 18), .iaddrA 4 1 (.t 1) (.c (.int .i64 1)), none⟩,
       ⟨(some 19), .load none (.t 18), none⟩,
       ⟨(some 20), .bin .add (.t 17) (.t 19), none⟩,
       ⟨(some 21), .iaddrA 4 1 (.t 1) (.c (.int .i64 2)), none⟩,
       ⟨(some 22), .load none (.t 21), none⟩,
       ⟨(some 23), .bin .add (.t 20) (.t 22), none⟩,
       ⟨(some 24), .iaddrA 4 1 (.t 1) (.c (.int .i64 3)), none⟩,
       ⟨(some 25), .load none (.t 24), none⟩,
       ⟨(some 26), .bin .add (.t 23) (.t 25), none⟩,
       ⟨(some 27), .bin .mul (.t 15) (.t 26), none⟩,
       ⟨(some 28), .iaddrA 4 1 (.t 1) (.c (.int .i64 0)), none⟩,
       ⟨(some 29), .load none (.t 28), none⟩,
       ⟨(some 30), .iaddrA 4 1 (.t 1) (.c (.int .i64 1)), none⟩,
       ⟨(some 31), .load none (.t 30), none⟩,
       ⟨(some 32), .bin .add (.t 29) (.t 31), none⟩,
       ⟨(some 33), .iaddrA 4 1 (.t 1) (.c (.int .i64 0)), none⟩,
       ⟨(some 34), .load none (.t 33), none⟩,
       ⟨(some 35), .iaddrA 4 1 (.t 1) (.c (.int .i64 2)), none⟩,
       ⟨(some 36), .load none (.t 35), none⟩,
       ⟨(some 37), .bin .add (.t 34) (.t 36), none⟩,
       ⟨(some 38), .bin .mul (.t 32) (.t 37), none⟩,
       ⟨(some 39), .call (.f 58) [(.t 13), (.t 27), (.t 38)], none⟩,
       ⟨(some 40), .ext (.t 39) 0, none⟩,
       ⟨(some 41), .ext (.t 39) 1, none⟩,
       ⟨(some 42), .ext (.t 39) 2, none⟩,
       ⟨none, .store 2 (.t 2) (.t 40), none⟩,
       ⟨(some 3), .mv (.t 41), none⟩,
       ⟨(some 4), .mv (.t 42), none⟩])
    (.ret)))
theorem s22_ok : lookF Try.prog 22 = some (s22, 43, [.cell 2 (some 2), .tmp 3, .tmp 4]) := by kernel_rfl
theorem rRatio_ok (a b c d : Nat) (h : a + b + c + d ≤ 40) : Fn P 22 [tabA a b c d] (.tup [frA (rtN (raX a b c d) (raY a b c d)) (rtD (raX a b c d) (raY a b c d)), boolA (decide (raY a b c d ≠ 0)), intA 0]) := by
  have c0 := isTable_ok a b c d
  rw [okB_t a b c d h] at c0
  have h1 := raX_le a b c d h
  have h2 := raY_le a b c d h
  have e1 := raX_eq a b c d
  have e2 := raY_eq a b c d
  have c1 := rPart_ok a b c d (by unfold OkT; omega) (raX a b c d) (raY a b c d) (by omega) (by omega)
  (refine fn_look s22_ok (by simp) (by intro k; simp only [go_sem, Nat.reduceEqDiff, ↓reduceIte, reduceCtorEq, Nat.reduceAdd, Nat.reduceMul, Int.reduceToNat, List.reduceReplicate, Nat.reduceLeDiff, Nat.reduceLT, Int.reduceLT, Int.reduceLE, Int.reduceEq]) fun S hS => cwp_sound _ _ _ _ ?_; simp (disch := omega) only [s22, go_sem, Nat.reduceEqDiff, ↓reduceIte, reduceCtorEq, Nat.reduceAdd, Nat.reduceMul, Int.reduceToNat, List.reduceReplicate, Nat.reduceLeDiff, Nat.reduceLT, Int.reduceLT, Int.reduceLE, Int.reduceEq])
  repeat' (first | (with_reducible refine in_seq ?_) | (with_reducible refine in_reg ?_) | (with_reducible refine in_block ?_) | (with_reducible refine in_cond ?_) | (with_reducible refine in_ret ?_) | (with_reducible refine in_skip ?_) | (simp (disch := omega) only [go_sem, Nat.reduceEqDiff, ↓reduceIte, reduceCtorEq, Nat.reduceAdd, Nat.reduceMul, Int.reduceToNat, List.reduceReplicate, Nat.reduceLeDiff, Nat.reduceLT, Int.reduceLT, Int.reduceLE, Int.reduceEq, e1, e2]) | (with_reducible refine giv_intro fun _h => ?_) | (with_reducible refine alt_intro ?_ (fun _h => ?_)) | ((first | with_reducible refine br_dec (fun _h => ?_) (fun _h => ?_) | with_reducible refine br_ndec (fun _h => ?_) (fun _h => ?_)) <;> (first | (exfalso; omega) | simp only [decide_eq_false _h] | simp only [decide_eq_true _h] | skip)) | ((first | with_reducible refine br_not (fun _h => ?_) (fun _h => ?_) | with_reducible refine br_var (fun _h => ?_) (fun _h => ?_)) <;> (try simp only [_h])) | ((with_reducible apply call (c0)); (focus (simp (disch := omega) only [go_sem, Nat.reduceEqDiff, ↓reduceIte, reduceCtorEq, Nat.reduceAdd, Nat.reduceMul, Int.reduceToNat, List.reduceReplicate, Nat.reduceLeDiff, Nat.reduceLT, Int.reduceLT, Int.reduceLE, Int.reduceEq, e1, e2]; (try rfl); done))) | ((with_reducible apply call (c1)); (focus (simp (disch := omega) only [go_sem, Nat.reduceEqDiff, ↓reduceIte, reduceCtorEq, Nat.reduceAdd, Nat.reduceMul, Int.reduceToNat, List.reduceReplicate, Nat.reduceLeDiff, Nat.reduceLT, Int.reduceLT, Int.reduceLE, Int.reduceEq, e1, e2]; (try rfl); done))) | fail)
theorem rRatio_no (a b c d : Int) (h : ¬ OkT a b c d) : Fn P 22 [tabI a b c d] (.tup [frA 0 0, boolA false, intA 1]) := by
  have c0 := isTable_ok a b c d
  rw [okB_f h] at c0
  have c1 := rPart_no a b c d 0 0 h
  (refine fn_look s22_ok (by simp) (by intro k; simp only [go_sem, Nat.reduceEqDiff, ↓reduceIte, reduceCtorEq, Nat.reduceAdd, Nat.reduceMul, Int.reduceToNat, List.reduceReplicate, Nat.reduceLeDiff, Nat.reduceLT, Int.reduceLT, Int.reduceLE, Int.reduceEq]) fun S hS => cwp_sound _ _ _ _ ?_; simp (disch := omega) only [s22, go_sem, Nat.reduceEqDiff, ↓reduceIte, reduceCtorEq, Nat.reduceAdd, Nat.reduceMul, Int.reduceToNat, List.reduceReplicate, Nat.reduceLeDiff, Nat.reduceLT, Int.reduceLT, Int.reduceLE, Int.reduceEq])
  repeat' (first | (with_reducible refine in_seq ?_) | (with_reducible refine in_reg ?_) | (with_reducible refine in_block ?_) | (with_reducible refine in_cond ?_) | (with_reducible refine in_ret ?_) | (with_reducible refine in_skip ?_) | (simp (disch := omega) only [go_sem, Nat.reduceEqDiff, ↓reduceIte, reduceCtorEq, Nat.reduceAdd, Nat.reduceMul, Int.reduceToNat, List.reduceReplicate, Nat.reduceLeDiff, Nat.reduceLT, Int.reduceLT, Int.reduceLE, Int.reduceEq]) | (with_reducible refine giv_intro fun _h => ?_) | (with_reducible refine alt_intro ?_ (fun _h => ?_)) | ((first | with_reducible refine br_dec (fun _h => ?_) (fun _h => ?_) | with_reducible refine br_ndec (fun _h => ?_) (fun _h => ?_)) <;> (first | (exfalso; omega) | simp only [decide_eq_false _h] | simp only [decide_eq_true _h] | skip)) | ((first | with_reducible refine br_not (fun _h => ?_) (fun _h => ?_) | with_reducible refine br_var (fun _h => ?_) (fun _h => ?_)) <;> (try simp only [_h])) | ((with_reducible apply call (c0)); (focus (simp (disch := omega) only [go_sem, Nat.reduceEqDiff, ↓reduceIte, reduceCtorEq, Nat.reduceAdd, Nat.reduceMul, Int.reduceToNat, List.reduceReplicate, Nat.reduceLeDiff, Nat.reduceLT, Int.reduceLT, Int.reduceLE, Int.reduceEq]; (try rfl); done))) | ((with_reducible apply call (c1)); (focus (simp (disch := omega) only [go_sem, Nat.reduceEqDiff, ↓reduceIte, reduceCtorEq, Nat.reduceAdd, Nat.reduceMul, Int.reduceToNat, List.reduceReplicate, Nat.reduceLeDiff, Nat.reduceLT, Int.reduceLT, Int.reduceLE, Int.reduceEq]; (try rfl); done))) | fail)
/-- ablaut/tally.Dice: 1 parameters, 0 captured -/
def s23 : SC := .seq (.reg [⟨(some 1), .box 22 4 (.t 0), none⟩,
     ⟨(some 2), .alloc 27 2 [(.int .i64 0), (.int .i64 0)], none⟩,
     ⟨(some 3), .mv (.c (.bool false)), none⟩,
     ⟨(some 4), .mv (.c (.int .i64 0)), none⟩])
  (.seq (.seq (.reg [⟨(some 9), .load (some 4) (.t 1), none⟩,
       ⟨(some 10), .call (.f 47) [(.t 9)], none⟩,
       ⟨(some 5), .mv (.t 10), none⟩])
    (.seq (.reg [⟨(some 11), .mv (.t 5), none⟩,
        ⟨(some 12), .bin .neq (.t 11) (.c (.int .i64 0)), none⟩])
     (.cond (.t 12) (.seq (.reg [⟨(some 13), .build [(.int .i64 0), (.int .i64 0)] [], none⟩,
          ⟨(some 14), .mv (.t 5), none⟩,
          ⟨none, .store 2 (.t 2) (.t 13), none⟩,
          ⟨(some 3), .mv (.c (.bool false)), none⟩,
          ⟨(some 4), .mv (.t 14), none⟩])
       (.ret)) (.skip))))
   (.seq (.regD [⟨(some 15), .iaddrA 4 1 (.t 1) (.c (.int .i64 0)), none⟩,
       ⟨(some 16), .load none (.t 15), none⟩,
       ⟨(some 17), .iaddrA 4 1 (.t 1) (.c (.int .i64 1)), none⟩,
       ⟨(some 18), .load none (.t 17), none⟩,
       ⟨(some 19), .iaddrA 4 1 (.t 1) (.c (.int .i64 2)), none⟩,
       ⟨(some 20), .load none (.t 19), none⟩,
       ⟨(some 6), .mv (.t 16), none⟩,
       ⟨(some 7), .mv (.t 18), none⟩,
       ⟨(some 8), .mv (.t 20), none⟩])
    (.seq (.reg [⟨(some 21), .mv (.t 6), none⟩,
        ⟨(some 22), .bin .mul (.c (.int .i64 2)) (.t 21), none⟩,
        ⟨(some 23), .mv (.t 6), none⟩,
        ⟨(some 24), .bin .mul (.c (.int .i64 2)) (.t 23), none⟩,
        ⟨(some 25), .mv (.t 7), none⟩,
        ⟨(some 26), .bin .add (.t 24) (.t 25), none⟩,
        ⟨(some 27), .mv (.t 8), none⟩,
        ⟨(some 28), .bin .add (.t 26) (.t 27), none⟩,
        ⟨(some 29), .call (.f 57) [(.t 22), (.t 28)], none⟩,
        ⟨(some 30), .ext (.t 29) 0, none⟩,
        ⟨(some 31), .ext (.t 29) 1, none⟩,
        ⟨(some 32), .ext (.t 29) 2, none⟩,
        ⟨none, .store 2 (.t 2) (.t 30), none⟩,
        ⟨(some 3), .mv (.t 31), none⟩,
        ⟨(some 4), .mv (.t 32), none⟩])
     (.ret))))
theorem s23_ok : lookF Try.prog 23 = some (s23, 33, [.cell 2 (some 2), .tmp 3, .tmp 4]) := by kernel_rfl
theorem Dice_ok (a b c d : Nat) (h : a + b + c + d ≤ 40) : Fn P 23 [tabA a b c d] (.tup [frA (rtN (2 * a) (2 * a + b + c)) (rtD (2 * a) (2 * a + b + c)), boolA (decide (2 * a + b + c ≠ 0)), intA 0]) := by
  have c0 := four_ok a b c d
  rw [bad_ok a b c d h] at c0
  have e1 : (2 : Int) * (a : Int) = ((2 * a : Nat) : Int) := by omega
  have c1 := over_ok (2 * a) (2 * a + b + c) (by omega) (by omega)
  (refine fn_look s23_ok (by simp) (by intro k; simp only [go_sem, Nat.reduceEqDiff, ↓reduceIte, reduceCtorEq, Nat.reduceAdd, Nat.reduceMul, Int.reduceToNat, List.reduceReplicate, Nat.reduceLeDiff, Nat.reduceLT, Int.reduceLT, Int.reduceLE, Int.reduceEq]) fun S hS => cwp_sound _ _ _ _ ?_; simp (disch := omega) only [s23, go_sem, Nat.reduceEqDiff, ↓reduceIte, reduceCtorEq, Nat.reduceAdd, Nat.reduceMul, Int.reduceToNat, List.reduceReplicate, Nat.reduceLeDiff, Nat.reduceLT, Int.reduceLT, Int.reduceLE, Int.reduceEq])
  repeat' (first | (with_reducible refine in_seq ?_) | (with_reducible refine in_reg ?_) | (with_reducible refine in_block ?_) | (with_reducible refine in_cond ?_) | (with_reducible refine in_ret ?_) | (with_reducible refine in_skip ?_) | (simp (disch := omega) only [go_sem, Nat.reduceEqDiff, ↓reduceIte, reduceCtorEq, Nat.reduceAdd, Nat.reduceMul, Int.reduceToNat, List.reduceReplicate, Nat.reduceLeDiff, Nat.reduceLT, Int.reduceLT, Int.reduceLE, Int.reduceEq, e1]) | (with_reducible refine giv_intro fun _h => ?_) | (with_reducible refine alt_intro ?_ (fun _h => ?_)) | ((first | with_reducible refine br_dec (fun _h => ?_) (fun _h => ?_) | with_reducible refine br_ndec (fun _h => ?_) (fun _h => ?_)) <;> (first | (exfalso; omega) | simp only [decide_eq_false _h] | simp only [decide_eq_true _h] | skip)) | ((first | with_reducible refine br_not (fun _h => ?_) (fun _h => ?_) | with_reducible refine br_var (fun _h => ?_) (fun _h => ?_)) <;> (try simp only [_h])) | ((with_reducible apply call (c0)); (focus (simp (disch := omega) only [go_sem, Nat.reduceEqDiff, ↓reduceIte, reduceCtorEq, Nat.reduceAdd, Nat.reduceMul, Int.reduceToNat, List.reduceReplicate, Nat.reduceLeDiff, Nat.reduceLT, Int.reduceLT, Int.reduceLE, Int.reduceEq, e1]; (try rfl); done))) | ((with_reducible apply call (c1)); (focus (simp (disch := omega) only [go_sem, Nat.reduceEqDiff, ↓reduceIte, reduceCtorEq, Nat.reduceAdd, Nat.reduceMul, Int.reduceToNat, List.reduceReplicate, Nat.reduceLeDiff, Nat.reduceLT, Int.reduceLT, Int.reduceLE, Int.reduceEq, e1]; (try rfl); done))) | fail)
theorem Dice_no (a b c d : Int) (h : ¬ OkT a b c d) : Fn P 23 [tabI a b c d] (.tup [frA 0 0, boolA false, intA 1]) := by
  have c0 := four_ok a b c d
  rw [bad_1 h] at c0
  (refine fn_look s23_ok (by simp) (by intro k; simp only [go_sem, Nat.reduceEqDiff, ↓reduceIte, reduceCtorEq, Nat.reduceAdd, Nat.reduceMul, Int.reduceToNat, List.reduceReplicate, Nat.reduceLeDiff, Nat.reduceLT, Int.reduceLT, Int.reduceLE, Int.reduceEq]) fun S hS => cwp_sound _ _ _ _ ?_; simp (disch := omega) only [s23, go_sem, Nat.reduceEqDiff, ↓reduceIte, reduceCtorEq, Nat.reduceAdd, Nat.reduceMul, Int.reduceToNat, List.reduceReplicate, Nat.reduceLeDiff, Nat.reduceLT, Int.reduceLT, Int.reduceLE, Int.reduceEq])
  repeat' (first | (with_reducible refine in_seq ?_) | (with_reducible refine in_reg ?_) | (with_reducible refine in_block ?_) | (with_reducible refine in_cond ?_) | (with_reducible refine in_ret ?_) | (with_reducible refine in_skip ?_) | (simp (disch := omega) only [go_sem, Nat.reduceEqDiff, ↓reduceIte, reduceCtorEq, Nat.reduceAdd, Nat.reduceMul, Int.reduceToNat, List.reduceReplicate, Nat.reduceLeDiff, Nat.reduceLT, Int.reduceLT, Int.reduceLE, Int.reduceEq]) | (with_reducible refine giv_intro fun _h => ?_) | (with_reducible refine alt_intro ?_ (fun _h => ?_)) | ((first | with_reducible refine br_dec (fun _h => ?_) (fun _h => ?_) | with_reducible refine br_ndec (fun _h => ?_) (fun _h => ?_)) <;> (first | (exfalso; omega) | simp only [decide_eq_false _h] | simp only [decide_eq_true _h] | skip)) | ((first | with_reducible refine br_not (fun _h => ?_) (fun _h => ?_) | with_reducible refine br_var (fun _h => ?_) (fun _h => ?_)) <;> (try simp only [_h])) | ((with_reducible apply call (c0)); (focus (simp (disch := omega) only [go_sem, Nat.reduceEqDiff, ↓reduceIte, reduceCtorEq, Nat.reduceAdd, Nat.reduceMul, Int.reduceToNat, List.reduceReplicate, Nat.reduceLeDiff, Nat.reduceLT, Int.reduceLT, Int.reduceLE, Int.reduceEq]; (try rfl); done))) | fail)
/-- ablaut/ablautref27.Dice: 1 parameters, 0 captured -/
def s24 : SC := .seq (.reg [⟨(some 1), .box 22 4 (.t 0), none⟩,
     ⟨(some 2), .alloc 27 2 [(.int .i64 0), (.int .i64 0)], none⟩,
     ⟨(some 3), .mv (.c (.bool false)), none⟩,
     ⟨(some 4), .mv (.c (.int .i64 0)), none⟩])
  (.seq (.seq (.reg [⟨(some 5), .load (some 4) (.t 1), none⟩,
       ⟨(some 6), .call (.f 52) [(.t 5)], none⟩,
       ⟨(some 7), .un .not (.t 6), none⟩])
    (.cond (.t 7) (.seq (.reg [⟨(some 8), .load (some 4) (.t 1), none⟩,
         ⟨(some 9), .call (.f 58) [(.t 8), (.c (.int .i64 0)), (.c (.int .i64 0))], none⟩,
         ⟨(some 10), .ext (.t 9) 0, none⟩,
         ⟨(some 11), .ext (.t 9) 1, none⟩,
         ⟨(some 12), .ext (.t 9) 2, none⟩,
         ⟨none, .store 2 (.t 2) (.t 10), none⟩,
         ⟨(some 3), .mv (.t 11), none⟩,
         ⟨(some 4), .mv (.t 12), none⟩])
      (.ret)) (.skip)))
   (.seq (.reg [⟨(some 13), .load (some 4) (.t 1), none⟩,
       ⟨(some 14), .iaddrA 4 1 (.t 1) (.c (.int .i64 0)), none⟩,
       ⟨(some 15), .load none (.t 14), none⟩,
       ⟨(some 16), .bin .mul (.c (.int .i64 2)) (.t 15), none⟩,
       ⟨(some 17), .iaddrA 4 1 (.t 1) (.c (.int .i64 0)), none⟩,
       ⟨(some 18), .load none (.t 17), none⟩,
       ⟨(some 19), .iaddrA 4 1 (.t 1) (.c (.int .i64 1)), none⟩,
       ⟨(some 20), .load none (.t 19), none⟩,
       ⟨(some 21), .bin .add (.t 18) (.t 20), none⟩,
       ⟨(some 22), .iaddrA 4 1 (.t 1) (.c (.int .i64 0)), none⟩,
       ⟨(some 23), .load none (.t 22), none⟩,
       ⟨(some 24), .bin .add (.t 21) (.t 23), none⟩,
       ⟨(some 25), .iaddrA 4 1 (.t 1) (.c (.int .i64 2)), none⟩,
       ⟨(some 26), .load none (.t 25), none⟩,
       ⟨(some 27), .bin .add (.t 24) (.t 26), none⟩,
       ⟨(some 28), .call (.f 58) [(.t 13), (.t 16), (.t 27)], none⟩,
       ⟨(some 29), .ext (.t 28) 0, none⟩,
       ⟨(some 30), .ext (.t 28) 1, none⟩,
       ⟨(some 31), .ext (.t 28) 2, none⟩,
       ⟨none, .store 2 (.t 2) (.t 29), none⟩,
       ⟨(some 3), .mv (.t 30), none⟩,
       ⟨(some 4), .mv (.t 31), none⟩])
    (.ret)))
theorem s24_ok : lookF Try.prog 24 = some (s24, 32, [.cell 2 (some 2), .tmp 3, .tmp 4]) := by kernel_rfl
theorem rDice_ok (a b c d : Nat) (h : a + b + c + d ≤ 40) : Fn P 24 [tabA a b c d] (.tup [frA (rtN (2 * a) (2 * a + b + c)) (rtD (2 * a) (2 * a + b + c)), boolA (decide (2 * a + b + c ≠ 0)), intA 0]) := by
  have c0 := isTable_ok a b c d
  rw [okB_t a b c d h] at c0
  have e1 : (2 : Int) * (a : Int) = ((2 * a : Nat) : Int) := by omega
  have e2 : (a : Int) + b + a + c = ((2 * a + b + c : Nat) : Int) := by omega
  have c1 := rPart_ok a b c d (by unfold OkT; omega) (2 * a) (2 * a + b + c) (by omega) (by omega)
  (refine fn_look s24_ok (by simp) (by intro k; simp only [go_sem, Nat.reduceEqDiff, ↓reduceIte, reduceCtorEq, Nat.reduceAdd, Nat.reduceMul, Int.reduceToNat, List.reduceReplicate, Nat.reduceLeDiff, Nat.reduceLT, Int.reduceLT, Int.reduceLE, Int.reduceEq]) fun S hS => cwp_sound _ _ _ _ ?_; simp (disch := omega) only [s24, go_sem, Nat.reduceEqDiff, ↓reduceIte, reduceCtorEq, Nat.reduceAdd, Nat.reduceMul, Int.reduceToNat, List.reduceReplicate, Nat.reduceLeDiff, Nat.reduceLT, Int.reduceLT, Int.reduceLE, Int.reduceEq])
  repeat' (first | (with_reducible refine in_seq ?_) | (with_reducible refine in_reg ?_) | (with_reducible refine in_block ?_) | (with_reducible refine in_cond ?_) | (with_reducible refine in_ret ?_) | (with_reducible refine in_skip ?_) | (simp (disch := omega) only [go_sem, Nat.reduceEqDiff, ↓reduceIte, reduceCtorEq, Nat.reduceAdd, Nat.reduceMul, Int.reduceToNat, List.reduceReplicate, Nat.reduceLeDiff, Nat.reduceLT, Int.reduceLT, Int.reduceLE, Int.reduceEq, e1, e2]) | (with_reducible refine giv_intro fun _h => ?_) | (with_reducible refine alt_intro ?_ (fun _h => ?_)) | ((first | with_reducible refine br_dec (fun _h => ?_) (fun _h => ?_) | with_reducible refine br_ndec (fun _h => ?_) (fun _h => ?_)) <;> (first | (exfalso; omega) | simp only [decide_eq_false _h] | simp only [decide_eq_true _h] | skip)) | ((first | with_reducible refine br_not (fun _h => ?_) (fun _h => ?_) | with_reducible refine br_var (fun _h => ?_) (fun _h => ?_)) <;> (try simp only [_h])) | ((with_reducible apply call (c0)); (focus (simp (disch := omega) only [go_sem, Nat.reduceEqDiff, ↓reduceIte, reduceCtorEq, Nat.reduceAdd, Nat.reduceMul, Int.reduceToNat, List.reduceReplicate, Nat.reduceLeDiff, Nat.reduceLT, Int.reduceLT, Int.reduceLE, Int.reduceEq, e1, e2]; (try rfl); done))) | ((with_reducible apply call (c1)); (focus (simp (disch := omega) only [go_sem, Nat.reduceEqDiff, ↓reduceIte, reduceCtorEq, Nat.reduceAdd, Nat.reduceMul, Int.reduceToNat, List.reduceReplicate, Nat.reduceLeDiff, Nat.reduceLT, Int.reduceLT, Int.reduceLE, Int.reduceEq, e1, e2]; (try rfl); done))) | fail)
theorem rDice_no (a b c d : Int) (h : ¬ OkT a b c d) : Fn P 24 [tabI a b c d] (.tup [frA 0 0, boolA false, intA 1]) := by
  have c0 := isTable_ok a b c d
  rw [okB_f h] at c0
  have c1 := rPart_no a b c d 0 0 h
  (refine fn_look s24_ok (by simp) (by intro k; simp only [go_sem, Nat.reduceEqDiff, ↓reduceIte, reduceCtorEq, Nat.reduceAdd, Nat.reduceMul, Int.reduceToNat, List.reduceReplicate, Nat.reduceLeDiff, Nat.reduceLT, Int.reduceLT, Int.reduceLE, Int.reduceEq]) fun S hS => cwp_sound _ _ _ _ ?_; simp (disch := omega) only [s24, go_sem, Nat.reduceEqDiff, ↓reduceIte, reduceCtorEq, Nat.reduceAdd, Nat.reduceMul, Int.reduceToNat, List.reduceReplicate, Nat.reduceLeDiff, Nat.reduceLT, Int.reduceLT, Int.reduceLE, Int.reduceEq])
  repeat' (first | (with_reducible refine in_seq ?_) | (with_reducible refine in_reg ?_) | (with_reducible refine in_block ?_) | (with_reducible refine in_cond ?_) | (with_reducible refine in_ret ?_) | (with_reducible refine in_skip ?_) | (simp (disch := omega) only [go_sem, Nat.reduceEqDiff, ↓reduceIte, reduceCtorEq, Nat.reduceAdd, Nat.reduceMul, Int.reduceToNat, List.reduceReplicate, Nat.reduceLeDiff, Nat.reduceLT, Int.reduceLT, Int.reduceLE, Int.reduceEq]) | (with_reducible refine giv_intro fun _h => ?_) | (with_reducible refine alt_intro ?_ (fun _h => ?_)) | ((first | with_reducible refine br_dec (fun _h => ?_) (fun _h => ?_) | with_reducible refine br_ndec (fun _h => ?_) (fun _h => ?_)) <;> (first | (exfalso; omega) | simp only [decide_eq_false _h] | simp only [decide_eq_true _h] | skip)) | ((first | with_reducible refine br_not (fun _h => ?_) (fun _h => ?_) | with_reducible refine br_var (fun _h => ?_) (fun _h => ?_)) <;> (try simp only [_h])) | ((with_reducible apply call (c0)); (focus (simp (disch := omega) only [go_sem, Nat.reduceEqDiff, ↓reduceIte, reduceCtorEq, Nat.reduceAdd, Nat.reduceMul, Int.reduceToNat, List.reduceReplicate, Nat.reduceLeDiff, Nat.reduceLT, Int.reduceLT, Int.reduceLE, Int.reduceEq]; (try rfl); done))) | ((with_reducible apply call (c1)); (focus (simp (disch := omega) only [go_sem, Nat.reduceEqDiff, ↓reduceIte, reduceCtorEq, Nat.reduceAdd, Nat.reduceMul, Int.reduceToNat, List.reduceReplicate, Nat.reduceLeDiff, Nat.reduceLT, Int.reduceLT, Int.reduceLE, Int.reduceEq]; (try rfl); done))) | fail)
end Go.Proofs.Ytedbjmonfbpefaa.Ev

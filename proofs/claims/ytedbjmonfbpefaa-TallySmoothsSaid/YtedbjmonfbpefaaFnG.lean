/- Tables of four: how likely or more so. -/
import Derived.Test.YtedbjmonfbpefaaFnE
set_option linter.unusedVariables false
set_option linter.unusedSimpArgs false
namespace Go.Proofs.Ytedbjmonfbpefaa.Ev
open Go Go.Proofs

theorem exW_le (a b c d : Nat) (h : a + b + c + d ≤ 40) : exW a b c d ≤ 2 ^ 40 := by
  have h1 := bin_le (a + b) a
  have h2 := bin_le (c + d) c
  have hm := Nat.mul_le_mul h1 h2
  rw [← Nat.pow_add] at hm
  have hp : 2 ^ (a + b + (c + d)) ≤ 2 ^ 40 := Nat.pow_le_pow_right (by omega) (by omega)
  exact Nat.le_trans hm hp
theorem allW_le (a b c d : Nat) (h : a + b + c + d ≤ 40) : allW a b c d ≤ 2 ^ 40 :=
  Nat.le_trans (bin_le _ _) (Nat.pow_le_pow_right (by omega) h)
theorem allW_pos (a b c d : Nat) : 0 < allW a b c d := bin_pos _ _ (by omega)
theorem sumN_le {T : Nat → Nat} {M : Nat} : ∀ j, (∀ i, i < j → T i ≤ M) → sumN T j ≤ j * M
  | 0, _ => by simp [sumN]
  | j + 1, h => by
    have h1 := sumN_le j fun i hi => h i (by omega)
    have h2 := h j (by omega)
    rw [sumN, Nat.succ_mul]; omega
theorem tlT_le (a b c d j : Nat) (h : a + b + c + d ≤ 40) (hj : j ≤ min b c) : tlT a b c d j ≤ 2 ^ 40 := exW_le _ _ _ _ (by omega)
theorem tlS_le (a b c d j : Nat) (h : a + b + c + d ≤ 40) (hj : j ≤ min b c + 1) : sumN (tlT a b c d) j ≤ 41 * 2 ^ 40 :=
  Nat.le_trans (sumN_le j fun i hi => tlT_le a b c d i h (by omega)) (Nat.mul_le_mul_right _ (by omega))
theorem tlW_le (a b c d : Nat) (h : a + b + c + d ≤ 40) : tlW a b c d ≤ 41 * 2 ^ 40 := tlS_le _ _ _ _ _ h (by omega)

/-- ablaut/tally.tail: 1 parameters, 0 captured -/
def s48 : SC := .seq (.reg [⟨(some 1), .box 22 4 (.t 0), none⟩,
     ⟨(some 2), .alloc 27 2 [(.int .i64 0), (.int .i64 0)], none⟩])
  (.seq (.reg [⟨(some 3), .mv (.c (.int .i64 0)), none⟩])
   (.seq (.reg [⟨(some 9), .load (some 4) (.t 1), none⟩,
       ⟨(some 10), .call (.f 50) [(.t 9)], none⟩,
       ⟨(some 8), .mv (.t 10), none⟩,
       ⟨(some 11), .ext (.t 8) 0, none⟩,
       ⟨(some 12), .ext (.t 8) 1, none⟩,
       ⟨(some 4), .mv (.t 11), none⟩,
       ⟨(some 5), .mv (.t 12), none⟩])
    (.seq (.block 0 (.loop (.seq (.seq (.reg [⟨(some 13), .iaddrA 4 1 (.t 1) (.c (.int .i64 1)), none⟩,
            ⟨(some 14), .load none (.t 13), none⟩,
            ⟨(some 15), .bin .geq (.t 14) (.c (.int .i64 0)), none⟩,
            ⟨(some 16), .mv (.t 15), none⟩,
            ⟨(some 17), .iaddrA 4 1 (.t 1) (.c (.int .i64 2)), some (16, true)⟩,
            ⟨(some 18), .load none (.t 17), some (16, true)⟩,
            ⟨(some 19), .bin .geq (.t 18) (.c (.int .i64 0)), some (16, true)⟩,
            ⟨(some 20), .pick (.t 16) (.t 19) (.c (.bool false)), none⟩])
         (.cond (.t 20) (.skip) (.exit 0)))
        (.seq (.block 1 (.seq (.reg [⟨(some 35), .load (some 4) (.t 1), none⟩,
              ⟨(some 36), .call (.f 50) [(.t 35)], none⟩,
              ⟨(some 34), .mv (.t 36), none⟩,
              ⟨(some 37), .ext (.t 34) 0, none⟩,
              ⟨(some 38), .ext (.t 34) 1, none⟩,
              ⟨(some 6), .mv (.t 37), none⟩,
              ⟨(some 7), .mv (.t 38), none⟩])
           (.reg [⟨(some 39), .mv (.t 3), none⟩,
              ⟨(some 40), .mv (.t 6), none⟩,
              ⟨(some 41), .bin .add (.t 39) (.t 40), none⟩,
              ⟨(some 3), .mv (.t 41), none⟩])))
         (.reg [⟨(some 21), .iaddrA 4 1 (.t 1) (.c (.int .i64 0)), none⟩,
            ⟨(some 22), .load none (.t 21), none⟩,
            ⟨(some 23), .bin .add (.t 22) (.c (.int .i64 1)), none⟩,
            ⟨(some 24), .iaddrA 4 1 (.t 1) (.c (.int .i64 1)), none⟩,
            ⟨(some 25), .load none (.t 24), none⟩,
            ⟨(some 26), .bin .sub (.t 25) (.c (.int .i64 1)), none⟩,
            ⟨(some 27), .iaddrA 4 1 (.t 1) (.c (.int .i64 2)), none⟩,
            ⟨(some 28), .load none (.t 27), none⟩,
            ⟨(some 29), .bin .sub (.t 28) (.c (.int .i64 1)), none⟩,
            ⟨(some 30), .iaddrA 4 1 (.t 1) (.c (.int .i64 3)), none⟩,
            ⟨(some 31), .load none (.t 30), none⟩,
            ⟨(some 32), .bin .add (.t 31) (.c (.int .i64 1)), none⟩,
            ⟨(some 33), .build [(.int .i64 0), (.int .i64 0), (.int .i64 0), (.int .i64 0)] [(0, 1, (.t 23)), (1, 1, (.t 26)), (2, 1, (.t 29)), (3, 1, (.t 32))], none⟩,
            ⟨none, .store 4 (.t 1) (.t 33), none⟩])))))
     (.seq (.reg [⟨(some 42), .mv (.t 3), none⟩,
         ⟨(some 43), .mv (.t 5), none⟩,
         ⟨(some 44), .call (.f 49) [(.t 42), (.t 43)], none⟩,
         ⟨none, .store 2 (.t 2) (.t 44), none⟩])
      (.ret)))))
theorem s48_ok : lookF Try.prog 48 = some (s48, 45, [.cell 2 (some 2)]) := by kernel_rfl
theorem tail_ok (a b c d : Nat) (h : a + b + c + d ≤ 40) : Fn P 48 [tabA a b c d] (frA ((tlW a b c d / Nat.gcd (tlW a b c d) (allW a b c d) : Nat) : Int) ((allW a b c d / Nat.gcd (tlW a b c d) (allW a b c d) : Nat) : Int)) := by
  have c2 := tables_ok a b c d h
  have hal := allW_le a b c d h
  have htl := tlW_le a b c d h
  have c3 := share_ok (tlW a b c d) (allW a b c d) (Nat.gcd_pos_of_pos_right _ (allW_pos a b c d)) (by omega) (by omega)
  change Fn P _ _ (.tup [intA (exW a b c d : Nat), intA (allW a b c d : Nat)]) at c2
  (refine fn_look s48_ok (by simp) (by intro k; simp only [go_sem, Nat.reduceEqDiff, ↓reduceIte, reduceCtorEq, Nat.reduceAdd, Nat.reduceMul, Int.reduceToNat, List.reduceReplicate, Nat.reduceLeDiff, Nat.reduceLT, Int.reduceLT, Int.reduceLE, Int.reduceEq]) fun S hS => cwp_sound _ _ _ _ ?_; simp (disch := omega) only [s48, go_sem, Nat.reduceEqDiff, ↓reduceIte, reduceCtorEq, Nat.reduceAdd, Nat.reduceMul, Int.reduceToNat, List.reduceReplicate, Nat.reduceLeDiff, Nat.reduceLT, Int.reduceLT, Int.reduceLE, Int.reduceEq])
  repeat' (first | (with_reducible refine in_seq ?_) | (with_reducible refine in_reg ?_) | (with_reducible refine in_block ?_) | (with_reducible refine in_cond ?_) | (with_reducible refine in_ret ?_) | (with_reducible refine in_skip ?_) | (simp (disch := omega) only [go_sem, Nat.reduceEqDiff, ↓reduceIte, reduceCtorEq, Nat.reduceAdd, Nat.reduceMul, Int.reduceToNat, List.reduceReplicate, Nat.reduceLeDiff, Nat.reduceLT, Int.reduceLT, Int.reduceLE, Int.reduceEq]) | (with_reducible refine giv_intro fun _h => ?_) | (with_reducible refine alt_intro ?_ (fun _h => ?_)) | ((first | with_reducible refine br_dec (fun _h => ?_) (fun _h => ?_) | with_reducible refine br_ndec (fun _h => ?_) (fun _h => ?_)) <;> (first | (exfalso; omega) | simp only [decide_eq_false _h] | simp only [decide_eq_true _h] | skip)) | ((first | with_reducible refine br_not (fun _h => ?_) (fun _h => ?_) | with_reducible refine br_var (fun _h => ?_) (fun _h => ?_)) <;> (try simp only [_h])) | ((with_reducible apply call (c2)); (focus (simp (disch := omega) only [go_sem, Nat.reduceEqDiff, ↓reduceIte, reduceCtorEq, Nat.reduceAdd, Nat.reduceMul, Int.reduceToNat, List.reduceReplicate, Nat.reduceLeDiff, Nat.reduceLT, Int.reduceLT, Int.reduceLE, Int.reduceEq]; (try rfl); done))) | fail)
  (refine loopC hS [1, 2, 5] (by simp only [go_sem, Nat.reduceEqDiff, ↓reduceIte, reduceCtorEq, Nat.reduceAdd, Nat.reduceMul, Int.reduceToNat, List.reduceReplicate, Nat.reduceLeDiff, Nat.reduceLT, Int.reduceLT, Int.reduceLE, Int.reduceEq]; try rfl) (fun (j : Nat) => [(3, intA (sumN (tlT a b c d) j : Nat))]) (fun (j : Nat) => [some (.row 22 4 [intA ((a : Int) + j), intA ((b : Int) - j), intA ((c : Int) - j), intA ((d : Int) + j)]), some (.row 27 2 [intA 0, intA 0])]) (fun (j : Nat) => j ≤ min b c + 1) (fun (j : Nat) => min b c + 1 - j) (0) ?h01 ?hn1 ?rd1; case hn1 => (intro s; first | rfl | (rcases s with ⟨_, _⟩; rfl) | (rcases s with ⟨_, _, _⟩; rfl) | (rcases s with ⟨_, _, _, _⟩; rfl) | (rcases s with ⟨_, _, _, _, _⟩; rfl)))
  · simp (disch := omega) only [go_sem, Nat.reduceEqDiff, ↓reduceIte, reduceCtorEq, Nat.reduceAdd, Nat.reduceMul, Int.reduceToNat, List.reduceReplicate, Nat.reduceLeDiff, Nat.reduceLT, Int.reduceLT, Int.reduceLE, Int.reduceEq]; simp [sumN]
  · rintro j hj
    replace hj : j ≤ min b c + 1 := hj
    have hs := tlS_le a b c d j h hj
    by_cases hlt : j ≤ min b c
    · have eb : (b : Int) - j = ((b - j : Nat) : Int) := by omega
      have ec : (c : Int) - j = ((c - j : Nat) : Int) := by omega
      have c4 := tables_ok (a + j) (b - j) (c - j) (d + j) (by omega)
      change Fn P _ _ (.tup [intA (tlT a b c d j : Nat), intA (allW (a + j) (b - j) (c - j) (d + j) : Nat)]) at c4
      have ht := tlT_le a b c d j h hlt
      repeat' (first | (with_reducible refine in_seq ?_) | (with_reducible refine in_reg ?_) | (with_reducible refine in_block ?_) | (with_reducible refine in_cond ?_) | (with_reducible refine in_ret ?_) | (with_reducible refine in_skip ?_) | (simp (disch := omega) only [go_sem, Nat.reduceEqDiff, ↓reduceIte, reduceCtorEq, Nat.reduceAdd, Nat.reduceMul, Int.reduceToNat, List.reduceReplicate, Nat.reduceLeDiff, Nat.reduceLT, Int.reduceLT, Int.reduceLE, Int.reduceEq, eb, ec]) | (with_reducible refine giv_intro fun _h => ?_) | (with_reducible refine alt_intro ?_ (fun _h => ?_)) | ((first | with_reducible refine br_dec (fun _h => ?_) (fun _h => ?_) | with_reducible refine br_ndec (fun _h => ?_) (fun _h => ?_)) <;> (first | (exfalso; omega) | simp only [decide_eq_false _h] | simp only [decide_eq_true _h] | skip)) | ((first | with_reducible refine br_not (fun _h => ?_) (fun _h => ?_) | with_reducible refine br_var (fun _h => ?_) (fun _h => ?_)) <;> (try simp only [_h])) | ((with_reducible apply call (c4)); (focus (simp (disch := omega) only [go_sem, Nat.reduceEqDiff, ↓reduceIte, reduceCtorEq, Nat.reduceAdd, Nat.reduceMul, Int.reduceToNat, List.reduceReplicate, Nat.reduceLeDiff, Nat.reduceLT, Int.reduceLT, Int.reduceLE, Int.reduceEq, eb, ec]; (try rfl); done))) | fail)
      · refine ⟨j + 1, ⟨by omega, by omega⟩, by rw [sumN, Int.natCast_add], ?_⟩
        simp only [intA, List.cons.injEq, AV.sc.injEq, Value.int.injEq, and_true, true_and]
        omega
    · have e : j = min b c + 1 := by omega
      have hw : sumN (tlT a b c d) j = tlW a b c d := by rw [e]; rfl
      repeat' (first | (with_reducible refine in_seq ?_) | (with_reducible refine in_reg ?_) | (with_reducible refine in_block ?_) | (with_reducible refine in_cond ?_) | (with_reducible refine in_ret ?_) | (with_reducible refine in_skip ?_) | (simp (disch := omega) only [go_sem, Nat.reduceEqDiff, ↓reduceIte, reduceCtorEq, Nat.reduceAdd, Nat.reduceMul, Int.reduceToNat, List.reduceReplicate, Nat.reduceLeDiff, Nat.reduceLT, Int.reduceLT, Int.reduceLE, Int.reduceEq, hw]) | (with_reducible refine giv_intro fun _h => ?_) | (with_reducible refine alt_intro ?_ (fun _h => ?_)) | ((first | with_reducible refine br_dec (fun _h => ?_) (fun _h => ?_) | with_reducible refine br_ndec (fun _h => ?_) (fun _h => ?_)) <;> (first | (exfalso; omega) | simp only [decide_eq_false _h] | simp only [decide_eq_true _h] | skip)) | ((first | with_reducible refine br_not (fun _h => ?_) (fun _h => ?_) | with_reducible refine br_var (fun _h => ?_) (fun _h => ?_)) <;> (try simp only [_h])) | ((with_reducible apply call (c3)); (focus (simp (disch := omega) only [go_sem, Nat.reduceEqDiff, ↓reduceIte, reduceCtorEq, Nat.reduceAdd, Nat.reduceMul, Int.reduceToNat, List.reduceReplicate, Nat.reduceLeDiff, Nat.reduceLT, Int.reduceLT, Int.reduceLE, Int.reduceEq, hw]; (try rfl); done))) | fail)

theorem bad_ok (a b c d : Nat) (h : a + b + c + d ≤ 40) : bad a b c d = 0 := bad_0 (by unfold OkT; omega)
/-- ablaut/tally.Tail: 1 parameters, 0 captured -/
def s15 : SC := .seq (.reg [⟨(some 1), .box 22 4 (.t 0), none⟩,
     ⟨(some 2), .alloc 27 2 [(.int .i64 0), (.int .i64 0)], none⟩,
     ⟨(some 3), .mv (.c (.int .i64 0)), none⟩])
  (.seq (.seq (.reg [⟨(some 5), .load (some 4) (.t 1), none⟩,
       ⟨(some 6), .call (.f 47) [(.t 5)], none⟩,
       ⟨(some 4), .mv (.t 6), none⟩])
    (.seq (.reg [⟨(some 7), .mv (.t 4), none⟩,
        ⟨(some 8), .bin .neq (.t 7) (.c (.int .i64 0)), none⟩])
     (.cond (.t 8) (.seq (.reg [⟨(some 9), .build [(.int .i64 0), (.int .i64 0)] [], none⟩,
          ⟨(some 10), .mv (.t 4), none⟩,
          ⟨none, .store 2 (.t 2) (.t 9), none⟩,
          ⟨(some 3), .mv (.t 10), none⟩])
       (.ret)) (.skip))))
   (.seq (.reg [⟨(some 11), .load (some 4) (.t 1), none⟩,
       ⟨(some 12), .call (.f 48) [(.t 11)], none⟩,
       ⟨none, .store 2 (.t 2) (.t 12), none⟩,
       ⟨(some 3), .mv (.c (.int .i64 0)), none⟩])
    (.ret)))
theorem s15_ok : lookF Try.prog 15 = some (s15, 13, [.cell 2 (some 2), .tmp 3]) := by kernel_rfl
theorem Tail_ok (a b c d : Nat) (h : a + b + c + d ≤ 40) : Fn P 15 [tabA a b c d] (.tup [frA ((tlW a b c d / Nat.gcd (tlW a b c d) (allW a b c d) : Nat) : Int) ((allW a b c d / Nat.gcd (tlW a b c d) (allW a b c d) : Nat) : Int), intA 0]) := by
  have c1 := four_ok a b c d
  rw [bad_ok a b c d h] at c1
  have c2 := tail_ok a b c d h
  (refine fn_look s15_ok (by simp) (by intro k; simp only [go_sem, Nat.reduceEqDiff, ↓reduceIte, reduceCtorEq, Nat.reduceAdd, Nat.reduceMul, Int.reduceToNat, List.reduceReplicate, Nat.reduceLeDiff, Nat.reduceLT, Int.reduceLT, Int.reduceLE, Int.reduceEq]) fun S hS => cwp_sound _ _ _ _ ?_; simp (disch := omega) only [s15, go_sem, Nat.reduceEqDiff, ↓reduceIte, reduceCtorEq, Nat.reduceAdd, Nat.reduceMul, Int.reduceToNat, List.reduceReplicate, Nat.reduceLeDiff, Nat.reduceLT, Int.reduceLT, Int.reduceLE, Int.reduceEq])
  repeat' (first | (with_reducible refine in_seq ?_) | (with_reducible refine in_reg ?_) | (with_reducible refine in_block ?_) | (with_reducible refine in_cond ?_) | (with_reducible refine in_ret ?_) | (with_reducible refine in_skip ?_) | (simp (disch := omega) only [go_sem, Nat.reduceEqDiff, ↓reduceIte, reduceCtorEq, Nat.reduceAdd, Nat.reduceMul, Int.reduceToNat, List.reduceReplicate, Nat.reduceLeDiff, Nat.reduceLT, Int.reduceLT, Int.reduceLE, Int.reduceEq]) | (with_reducible refine giv_intro fun _h => ?_) | (with_reducible refine alt_intro ?_ (fun _h => ?_)) | ((first | with_reducible refine br_dec (fun _h => ?_) (fun _h => ?_) | with_reducible refine br_ndec (fun _h => ?_) (fun _h => ?_)) <;> (first | (exfalso; omega) | simp only [decide_eq_false _h] | simp only [decide_eq_true _h] | skip)) | ((first | with_reducible refine br_not (fun _h => ?_) (fun _h => ?_) | with_reducible refine br_var (fun _h => ?_) (fun _h => ?_)) <;> (try simp only [_h])) | ((with_reducible apply call (c1)); (focus (simp (disch := omega) only [go_sem, Nat.reduceEqDiff, ↓reduceIte, reduceCtorEq, Nat.reduceAdd, Nat.reduceMul, Int.reduceToNat, List.reduceReplicate, Nat.reduceLeDiff, Nat.reduceLT, Int.reduceLT, Int.reduceLE, Int.reduceEq]; (try rfl); done))) | ((with_reducible apply call (c2)); (focus (simp (disch := omega) only [go_sem, Nat.reduceEqDiff, ↓reduceIte, reduceCtorEq, Nat.reduceAdd, Nat.reduceMul, Int.reduceToNat, List.reduceReplicate, Nat.reduceLeDiff, Nat.reduceLT, Int.reduceLT, Int.reduceLE, Int.reduceEq]; (try rfl); done))) | fail)
theorem Tail_no (a b c d : Int) (h : ¬ OkT a b c d) : Fn P 15 [tabI a b c d] (.tup [frA 0 0, intA 1]) := by
  have c1 := four_ok a b c d
  rw [bad_1 h] at c1
  (refine fn_look s15_ok (by simp) (by intro k; simp only [go_sem, Nat.reduceEqDiff, ↓reduceIte, reduceCtorEq, Nat.reduceAdd, Nat.reduceMul, Int.reduceToNat, List.reduceReplicate, Nat.reduceLeDiff, Nat.reduceLT, Int.reduceLT, Int.reduceLE, Int.reduceEq]) fun S hS => cwp_sound _ _ _ _ ?_; simp (disch := omega) only [s15, go_sem, Nat.reduceEqDiff, ↓reduceIte, reduceCtorEq, Nat.reduceAdd, Nat.reduceMul, Int.reduceToNat, List.reduceReplicate, Nat.reduceLeDiff, Nat.reduceLT, Int.reduceLT, Int.reduceLE, Int.reduceEq])
  repeat' (first | (with_reducible refine in_seq ?_) | (with_reducible refine in_reg ?_) | (with_reducible refine in_block ?_) | (with_reducible refine in_cond ?_) | (with_reducible refine in_ret ?_) | (with_reducible refine in_skip ?_) | (simp (disch := omega) only [go_sem, Nat.reduceEqDiff, ↓reduceIte, reduceCtorEq, Nat.reduceAdd, Nat.reduceMul, Int.reduceToNat, List.reduceReplicate, Nat.reduceLeDiff, Nat.reduceLT, Int.reduceLT, Int.reduceLE, Int.reduceEq]) | (with_reducible refine giv_intro fun _h => ?_) | (with_reducible refine alt_intro ?_ (fun _h => ?_)) | ((first | with_reducible refine br_dec (fun _h => ?_) (fun _h => ?_) | with_reducible refine br_ndec (fun _h => ?_) (fun _h => ?_)) <;> (first | (exfalso; omega) | simp only [decide_eq_false _h] | simp only [decide_eq_true _h] | skip)) | ((first | with_reducible refine br_not (fun _h => ?_) (fun _h => ?_) | with_reducible refine br_var (fun _h => ?_) (fun _h => ?_)) <;> (try simp only [_h])) | ((with_reducible apply call (c1)); (focus (simp (disch := omega) only [go_sem, Nat.reduceEqDiff, ↓reduceIte, reduceCtorEq, Nat.reduceAdd, Nat.reduceMul, Int.reduceToNat, List.reduceReplicate, Nat.reduceLeDiff, Nat.reduceLT, Int.reduceLT, Int.reduceLE, Int.reduceEq]; (try rfl); done))) | fail)
/-- ablaut/tally.Chosen: 2 parameters, 0 captured -/
def s14 : SC := .seq (.reg [⟨(some 4), .mv (.c (.int .i64 0)), none⟩,
     ⟨(some 5), .mv (.c (.int .i64 0)), none⟩])
  (.seq (.seq (.reg [⟨(some 6), .mv (.t 0), none⟩,
       ⟨(some 7), .bin .lss (.t 6) (.c (.int .i64 0)), none⟩,
       ⟨(some 8), .mv (.t 7), none⟩,
       ⟨(some 9), .mv (.t 0), some (8, false)⟩,
       ⟨(some 10), .bin .gtr (.t 9) (.c (.int .i64 60)), some (8, false)⟩,
       ⟨(some 11), .pick (.t 8) (.c (.bool true)) (.t 10), none⟩,
       ⟨(some 12), .mv (.t 11), none⟩,
       ⟨(some 13), .mv (.t 1), some (12, false)⟩,
       ⟨(some 14), .bin .lss (.t 13) (.c (.int .i64 0)), some (12, false)⟩,
       ⟨(some 15), .pick (.t 12) (.c (.bool true)) (.t 14), none⟩,
       ⟨(some 16), .mv (.t 15), none⟩,
       ⟨(some 17), .mv (.t 1), some (16, false)⟩,
       ⟨(some 18), .mv (.t 0), some (16, false)⟩,
       ⟨(some 19), .bin .gtr (.t 17) (.t 18), some (16, false)⟩,
       ⟨(some 20), .pick (.t 16) (.c (.bool true)) (.t 19), none⟩])
    (.cond (.t 20) (.seq (.reg [⟨(some 4), .mv (.c (.int .i64 0)), none⟩,
         ⟨(some 5), .mv (.c (.int .i64 1)), none⟩])
      (.ret)) (.skip)))
   (.seq (.reg [⟨(some 21), .mv (.t 0), none⟩,
       ⟨(some 22), .mv (.t 1), none⟩,
       ⟨(some 23), .call (.f 46) [(.t 21), (.t 22)], none⟩,
       ⟨(some 4), .mv (.t 23), none⟩,
       ⟨(some 5), .mv (.c (.int .i64 0)), none⟩])
    (.ret)))
theorem s14_ok : lookF Try.prog 14 = some (s14, 24, [.tmp 4, .tmp 5]) := by kernel_rfl
theorem Chosen_ok (n k : Nat) (hn : n ≤ 60) (hk : k ≤ n) : Fn P 14 [intA n, intA k] (.tup [intA (bin n k : Nat), intA 0]) := by
  have c1 := chosen_ok n k hn hk
  (refine fn_look s14_ok (by simp) (by intro k; simp only [go_sem, Nat.reduceEqDiff, ↓reduceIte, reduceCtorEq, Nat.reduceAdd, Nat.reduceMul, Int.reduceToNat, List.reduceReplicate, Nat.reduceLeDiff, Nat.reduceLT, Int.reduceLT, Int.reduceLE, Int.reduceEq]) fun S hS => cwp_sound _ _ _ _ ?_; simp (disch := omega) only [s14, go_sem, Nat.reduceEqDiff, ↓reduceIte, reduceCtorEq, Nat.reduceAdd, Nat.reduceMul, Int.reduceToNat, List.reduceReplicate, Nat.reduceLeDiff, Nat.reduceLT, Int.reduceLT, Int.reduceLE, Int.reduceEq])
  repeat' (first | (with_reducible refine in_seq ?_) | (with_reducible refine in_reg ?_) | (with_reducible refine in_block ?_) | (with_reducible refine in_cond ?_) | (with_reducible refine in_ret ?_) | (with_reducible refine in_skip ?_) | (simp (disch := omega) only [go_sem, Nat.reduceEqDiff, ↓reduceIte, reduceCtorEq, Nat.reduceAdd, Nat.reduceMul, Int.reduceToNat, List.reduceReplicate, Nat.reduceLeDiff, Nat.reduceLT, Int.reduceLT, Int.reduceLE, Int.reduceEq]) | (with_reducible refine giv_intro fun _h => ?_) | (with_reducible refine alt_intro ?_ (fun _h => ?_)) | ((first | with_reducible refine br_dec (fun _h => ?_) (fun _h => ?_) | with_reducible refine br_ndec (fun _h => ?_) (fun _h => ?_)) <;> (first | (exfalso; omega) | simp only [decide_eq_false _h] | simp only [decide_eq_true _h] | skip)) | ((first | with_reducible refine br_not (fun _h => ?_) (fun _h => ?_) | with_reducible refine br_var (fun _h => ?_) (fun _h => ?_)) <;> (try simp only [_h])) | ((with_reducible apply call (c1)); (focus (simp (disch := omega) only [go_sem, Nat.reduceEqDiff, ↓reduceIte, reduceCtorEq, Nat.reduceAdd, Nat.reduceMul, Int.reduceToNat, List.reduceReplicate, Nat.reduceLeDiff, Nat.reduceLT, Int.reduceLT, Int.reduceLE, Int.reduceEq]; (try rfl); done))) | fail)
theorem Chosen_no (n k : Int) (h : n < 0 ∨ 60 < n ∨ k < 0 ∨ n < k) : Fn P 14 [intA n, intA k] (.tup [intA 0, intA 1]) := by
  (refine fn_look s14_ok (by simp) (by intro k; simp only [go_sem, Nat.reduceEqDiff, ↓reduceIte, reduceCtorEq, Nat.reduceAdd, Nat.reduceMul, Int.reduceToNat, List.reduceReplicate, Nat.reduceLeDiff, Nat.reduceLT, Int.reduceLT, Int.reduceLE, Int.reduceEq]) fun S hS => cwp_sound _ _ _ _ ?_; simp (disch := omega) only [s14, go_sem, Nat.reduceEqDiff, ↓reduceIte, reduceCtorEq, Nat.reduceAdd, Nat.reduceMul, Int.reduceToNat, List.reduceReplicate, Nat.reduceLeDiff, Nat.reduceLT, Int.reduceLT, Int.reduceLE, Int.reduceEq])
  repeat' (first | (with_reducible refine in_seq ?_) | (with_reducible refine in_reg ?_) | (with_reducible refine in_block ?_) | (with_reducible refine in_cond ?_) | (with_reducible refine in_ret ?_) | (with_reducible refine in_skip ?_) | (simp (disch := omega) only [go_sem, Nat.reduceEqDiff, ↓reduceIte, reduceCtorEq, Nat.reduceAdd, Nat.reduceMul, Int.reduceToNat, List.reduceReplicate, Nat.reduceLeDiff, Nat.reduceLT, Int.reduceLT, Int.reduceLE, Int.reduceEq]) | (with_reducible refine giv_intro fun _h => ?_) | (with_reducible refine alt_intro ?_ (fun _h => ?_)) | ((first | with_reducible refine br_dec (fun _h => ?_) (fun _h => ?_) | with_reducible refine br_ndec (fun _h => ?_) (fun _h => ?_)) <;> (first | (exfalso; omega) | simp only [decide_eq_false _h] | simp only [decide_eq_true _h] | skip)) | ((first | with_reducible refine br_not (fun _h => ?_) (fun _h => ?_) | with_reducible refine br_var (fun _h => ?_) (fun _h => ?_)) <;> (try simp only [_h])) | fail)
/-- ablaut/ablautlaw27.known: 0 parameters, 0 captured -/
def s17 : SC := .seq (.reg [⟨(some 0), .mv (.c (.bool false)), none⟩])
  (.seq (.reg [⟨(some 6), .build [(.int .i64 0), (.int .i64 0), (.int .i64 0), (.int .i64 0)] [(0, 1, (.c (.int .i64 1))), (1, 1, (.c (.int .i64 1))), (2, 1, (.c (.int .i64 1))), (3, 1, (.c (.int .i64 1)))], none⟩,
      ⟨(some 7), .call (.f 16) [(.t 6)], none⟩,
      ⟨(some 5), .mv (.t 7), none⟩,
      ⟨(some 8), .ext (.t 5) 0, none⟩,
      ⟨(some 9), .ext (.t 5) 1, none⟩,
      ⟨(some 1), .alloc 27 2 [(.int .i64 0), (.int .i64 0)], none⟩,
      ⟨none, .store 2 (.t 1) (.t 8), none⟩,
      ⟨(some 2), .mv (.t 9), none⟩])
   (.seq (.reg [⟨(some 11), .build [(.int .i64 0), (.int .i64 0), (.int .i64 0), (.int .i64 0)] [(0, 1, (.c (.int .i64 1))), (1, 1, (.c (.int .i64 1))), (2, 1, (.c (.int .i64 1))), (3, 1, (.c (.int .i64 1)))], none⟩,
       ⟨(some 12), .call (.f 15) [(.t 11)], none⟩,
       ⟨(some 10), .mv (.t 12), none⟩,
       ⟨(some 13), .ext (.t 10) 0, none⟩,
       ⟨(some 14), .ext (.t 10) 1, none⟩,
       ⟨(some 3), .alloc 27 2 [(.int .i64 0), (.int .i64 0)], none⟩,
       ⟨none, .store 2 (.t 3) (.t 13), none⟩,
       ⟨(some 4), .mv (.t 14), none⟩])
    (.seq (.reg [⟨(some 15), .mv (.t 2), none⟩,
        ⟨(some 16), .bin .eql (.t 15) (.c (.int .i64 0)), none⟩,
        ⟨(some 17), .mv (.t 16), none⟩,
        ⟨(some 18), .mv (.t 4), some (17, true)⟩,
        ⟨(some 19), .bin .eql (.t 18) (.c (.int .i64 0)), some (17, true)⟩,
        ⟨(some 20), .pick (.t 17) (.t 19) (.c (.bool false)), none⟩,
        ⟨(some 21), .mv (.t 20), none⟩,
        ⟨(some 22), .load (some 2) (.t 1), some (21, true)⟩,
        ⟨(some 23), .build [(.int .i64 0), (.int .i64 0)] [(0, 1, (.c (.int .i64 2))), (1, 1, (.c (.int .i64 3)))], some (21, true)⟩,
        ⟨(some 24), .eqS false [((.int .i64), 0), ((.int .i64), 1)] (.t 22) (.t 23), some (21, true)⟩,
        ⟨(some 25), .pick (.t 21) (.t 24) (.c (.bool false)), none⟩,
        ⟨(some 26), .mv (.t 25), none⟩,
        ⟨(some 27), .load (some 2) (.t 3), some (26, true)⟩,
        ⟨(some 28), .build [(.int .i64 0), (.int .i64 0)] [(0, 1, (.c (.int .i64 5))), (1, 1, (.c (.int .i64 6)))], some (26, true)⟩,
        ⟨(some 29), .eqS false [((.int .i64), 0), ((.int .i64), 1)] (.t 27) (.t 28), some (26, true)⟩,
        ⟨(some 30), .pick (.t 26) (.t 29) (.c (.bool false)), none⟩,
        ⟨(some 0), .mv (.t 30), none⟩])
     (.ret))))
theorem s17_ok : lookF Try.prog 17 = some (s17, 31, [.tmp 0]) := by kernel_rfl
theorem known_ok : Fn P 17 [] (boolA true) := by
  have c1 := exact_ok 1 1 1 1 (by decide) (by decide) (by decide) (by decide)
  have c2 := Tail_ok 1 1 1 1 (by decide)
  have e1 : exW 1 1 1 1 = 4 := by decide
  have e2 : allW 1 1 1 1 = 6 := by decide
  have e3 : tlW 1 1 1 1 = 5 := by decide
  rw [e1, e2] at c1
  rw [e2, e3] at c2
  (refine fn_look s17_ok (by simp) (by intro k; simp only [go_sem, Nat.reduceEqDiff, ↓reduceIte, reduceCtorEq, Nat.reduceAdd, Nat.reduceMul, Int.reduceToNat, List.reduceReplicate, Nat.reduceLeDiff, Nat.reduceLT, Int.reduceLT, Int.reduceLE, Int.reduceEq]) fun S hS => cwp_sound _ _ _ _ ?_; simp (disch := omega) only [s17, go_sem, Nat.reduceEqDiff, ↓reduceIte, reduceCtorEq, Nat.reduceAdd, Nat.reduceMul, Int.reduceToNat, List.reduceReplicate, Nat.reduceLeDiff, Nat.reduceLT, Int.reduceLT, Int.reduceLE, Int.reduceEq])
  repeat' (first | (with_reducible refine in_seq ?_) | (with_reducible refine in_reg ?_) | (with_reducible refine in_block ?_) | (with_reducible refine in_cond ?_) | (with_reducible refine in_ret ?_) | (with_reducible refine in_skip ?_) | (simp (disch := omega) only [go_sem, Nat.reduceEqDiff, ↓reduceIte, reduceCtorEq, Nat.reduceAdd, Nat.reduceMul, Int.reduceToNat, List.reduceReplicate, Nat.reduceLeDiff, Nat.reduceLT, Int.reduceLT, Int.reduceLE, Int.reduceEq]) | (with_reducible refine giv_intro fun _h => ?_) | (with_reducible refine alt_intro ?_ (fun _h => ?_)) | ((first | with_reducible refine br_dec (fun _h => ?_) (fun _h => ?_) | with_reducible refine br_ndec (fun _h => ?_) (fun _h => ?_)) <;> (first | (exfalso; omega) | simp only [decide_eq_false _h] | simp only [decide_eq_true _h] | skip)) | ((first | with_reducible refine br_not (fun _h => ?_) (fun _h => ?_) | with_reducible refine br_var (fun _h => ?_) (fun _h => ?_)) <;> (try simp only [_h])) | ((with_reducible apply call (c1)); (focus (simp (disch := omega) only [go_sem, Nat.reduceEqDiff, ↓reduceIte, reduceCtorEq, Nat.reduceAdd, Nat.reduceMul, Int.reduceToNat, List.reduceReplicate, Nat.reduceLeDiff, Nat.reduceLT, Int.reduceLT, Int.reduceLE, Int.reduceEq]; (try rfl); done))) | ((with_reducible apply call (c2)); (focus (simp (disch := omega) only [go_sem, Nat.reduceEqDiff, ↓reduceIte, reduceCtorEq, Nat.reduceAdd, Nat.reduceMul, Int.reduceToNat, List.reduceReplicate, Nat.reduceLeDiff, Nat.reduceLT, Int.reduceLT, Int.reduceLE, Int.reduceEq]; (try rfl); done))) | fail)
  · decide
  · revert _h; decide
end Go.Proofs.Ytedbjmonfbpefaa.Ev

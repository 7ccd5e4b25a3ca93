/- Tables of four: how likely. -/
import Derived.Test.YtedbjmonfbpefaaFnC
set_option linter.unusedVariables false
set_option linter.unusedSimpArgs false
namespace Go.Proofs.Ytedbjmonfbpefaa.Ev
open Go Go.Proofs

abbrev tabI (a b c d : Int) : AV := .agg [intA a, intA b, intA c, intA d]
def OkT (a b c d : Int) : Prop := 0 ≤ a ∧ 0 ≤ b ∧ 0 ≤ c ∧ 0 ≤ d ∧ a + b + c + d ≤ 40
instance (a b c d : Int) : Decidable (OkT a b c d) := by unfold OkT; infer_instance
def bad (a b c d : Int) : Int := if OkT a b c d then 0 else 1
theorem bad_0 {a b c d : Int} (h : OkT a b c d) : bad a b c d = 0 := if_pos h
theorem bad_1 {a b c d : Int} (h : ¬ OkT a b c d) : bad a b c d = 1 := if_neg h
def pre4 (a b c d : Int) : Nat → Int
  | 0 => 0
  | 1 => a
  | 2 => a + b
  | 3 => a + b + c
  | _ => a + b + c + d
/-- ablaut/tally.four: 1 parameters, 0 captured -/
def s47 : SC := .seq (.reg [⟨(some 1), .box 22 4 (.t 0), none⟩,
     ⟨(some 2), .mv (.c (.int .i64 0)), none⟩])
  (.seq (.reg [⟨(some 3), .mv (.c (.int .i64 0)), none⟩])
   (.seq (.seq (.reg [⟨(some 6), .load (some 4) (.t 1), none⟩,
        ⟨(some 7), .mv (.c (.int .i64 0)), none⟩])
     (.block 0 (.loop (.seq (.reg [⟨(some 8), .bin .lss (.t 7) (.c (.int .i64 4)), none⟩])
        (.seq (.cond (.t 8) (.skip) (.exit 0))
         (.seq (.block 1 (.seq (.reg [⟨(some 9), .ixa 4 1 false (.t 6) (.t 7), none⟩,
               ⟨(some 5), .mv (.t 9), none⟩])
            (.seq (.seq (.reg [⟨(some 10), .mv (.t 5), none⟩,
                 ⟨(some 11), .bin .lss (.t 10) (.c (.int .i64 0)), none⟩,
                 ⟨(some 12), .mv (.t 11), none⟩,
                 ⟨(some 13), .mv (.t 5), some (12, false)⟩,
                 ⟨(some 14), .bin .gtr (.t 13) (.c (.int .i64 40)), some (12, false)⟩,
                 ⟨(some 15), .pick (.t 12) (.c (.bool true)) (.t 14), none⟩])
              (.cond (.t 15) (.seq (.reg [⟨(some 2), .mv (.c (.int .i64 1)), none⟩])
                (.ret)) (.skip)))
             (.reg [⟨(some 16), .mv (.t 3), none⟩,
                ⟨(some 17), .mv (.t 5), none⟩,
                ⟨(some 18), .bin .add (.t 16) (.t 17), none⟩,
                ⟨(some 3), .mv (.t 18), none⟩]))))
          (.reg [⟨(some 19), .bin .add (.t 7) (.c (.int .i64 1)), none⟩,
             ⟨(some 7), .mv (.t 19), none⟩])))))))
    (.seq (.seq (.reg [⟨(some 20), .mv (.t 3), none⟩,
         ⟨(some 21), .bin .gtr (.t 20) (.c (.int .i64 40)), none⟩])
      (.cond (.t 21) (.seq (.reg [⟨(some 2), .mv (.c (.int .i64 1)), none⟩])
        (.ret)) (.skip)))
     (.seq (.reg [⟨(some 2), .mv (.c (.int .i64 0)), none⟩])
      (.ret)))))
theorem s47_ok : lookF Try.prog 47 = some (s47, 22, [.tmp 2]) := by kernel_rfl
theorem four_ok (a b c d : Int) : Fn P 47 [tabI a b c d] (intA (bad a b c d)) := by
  (refine fn_look s47_ok (by simp) (by intro k; simp only [go_sem, Nat.reduceEqDiff, ↓reduceIte, reduceCtorEq, Nat.reduceAdd, Nat.reduceMul, Int.reduceToNat, List.reduceReplicate, Nat.reduceLeDiff, Nat.reduceLT, Int.reduceLT, Int.reduceLE, Int.reduceEq]) fun S hS => cwp_sound _ _ _ _ ?_; simp (disch := omega) only [s47, go_sem, Nat.reduceEqDiff, ↓reduceIte, reduceCtorEq, Nat.reduceAdd, Nat.reduceMul, Int.reduceToNat, List.reduceReplicate, Nat.reduceLeDiff, Nat.reduceLT, Int.reduceLT, Int.reduceLE, Int.reduceEq])
  repeat' (first | (with_reducible refine in_seq ?_) | (with_reducible refine in_reg ?_) | (with_reducible refine in_block ?_) | (with_reducible refine in_cond ?_) | (with_reducible refine in_ret ?_) | (with_reducible refine in_skip ?_) | (simp (disch := omega) only [go_sem, Nat.reduceEqDiff, ↓reduceIte, reduceCtorEq, Nat.reduceAdd, Nat.reduceMul, Int.reduceToNat, List.reduceReplicate, Nat.reduceLeDiff, Nat.reduceLT, Int.reduceLT, Int.reduceLE, Int.reduceEq]) | (with_reducible refine giv_intro fun _h => ?_) | (with_reducible refine alt_intro ?_ (fun _h => ?_)) | ((first | with_reducible refine br_dec (fun _h => ?_) (fun _h => ?_) | with_reducible refine br_ndec (fun _h => ?_) (fun _h => ?_)) <;> (first | (exfalso; omega) | simp only [decide_eq_false _h] | simp only [decide_eq_true _h] | skip)) | ((first | with_reducible refine br_not (fun _h => ?_) (fun _h => ?_) | with_reducible refine br_var (fun _h => ?_) (fun _h => ?_)) <;> (try simp only [_h])) | fail)
  (refine loopC hS [6] (by simp only [go_sem, Nat.reduceEqDiff, ↓reduceIte, reduceCtorEq, Nat.reduceAdd, Nat.reduceMul, Int.reduceToNat, List.reduceReplicate, Nat.reduceLeDiff, Nat.reduceLT, Int.reduceLT, Int.reduceLE, Int.reduceEq]; try rfl) (fun (i : Nat) => [(3, intA (pre4 a b c d i)), (7, intA i)]) (fun (i : Nat) => [none]) (fun (i : Nat) => i ≤ 4 ∧ (i = 0 ∨ (0 ≤ a ∧ a ≤ 40)) ∧ (i ≤ 1 ∨ (0 ≤ b ∧ b ≤ 40)) ∧ (i ≤ 2 ∨ (0 ≤ c ∧ c ≤ 40)) ∧ (i ≤ 3 ∨ (0 ≤ d ∧ d ≤ 40))) (fun (i : Nat) => 4 - i) (0) ?h01 ?hn1 ?rd1; case hn1 => (intro s; first | rfl | (rcases s with ⟨_, _⟩; rfl) | (rcases s with ⟨_, _, _⟩; rfl) | (rcases s with ⟨_, _, _, _⟩; rfl) | (rcases s with ⟨_, _, _, _, _⟩; rfl)))
  · simp (disch := omega) only [go_sem, Nat.reduceEqDiff, ↓reduceIte, reduceCtorEq, Nat.reduceAdd, Nat.reduceMul, Int.reduceToNat, List.reduceReplicate, Nat.reduceLeDiff, Nat.reduceLT, Int.reduceLT, Int.reduceLE, Int.reduceEq]; simp [pre4]
  · rintro i ⟨h0, h1, h2, h3, h4⟩
    replace h0 : i ≤ 4 := h0
    replace h1 : i = 0 ∨ (0 ≤ a ∧ a ≤ 40) := h1
    replace h2 : i ≤ 1 ∨ (0 ≤ b ∧ b ≤ 40) := h2
    replace h3 : i ≤ 2 ∨ (0 ≤ c ∧ c ≤ 40) := h3
    replace h4 : i ≤ 3 ∨ (0 ≤ d ∧ d ≤ 40) := h4
    have hi : i = 0 ∨ i = 1 ∨ i = 2 ∨ i = 3 ∨ i = 4 := by omega
    rcases hi with rfl | rfl | rfl | rfl | rfl <;> simp only [pre4]
    · repeat' (first | (with_reducible refine in_seq ?_) | (with_reducible refine in_reg ?_) | (with_reducible refine in_block ?_) | (with_reducible refine in_cond ?_) | (with_reducible refine in_ret ?_) | (with_reducible refine in_skip ?_) | (simp (disch := omega) only [go_sem, Nat.reduceEqDiff, ↓reduceIte, reduceCtorEq, Nat.reduceAdd, Nat.reduceMul, Int.reduceToNat, List.reduceReplicate, Nat.reduceLeDiff, Nat.reduceLT, Int.reduceLT, Int.reduceLE, Int.reduceEq]) | (with_reducible refine giv_intro fun _h => ?_) | (with_reducible refine alt_intro ?_ (fun _h => ?_)) | ((first | with_reducible refine br_dec (fun _h => ?_) (fun _h => ?_) | with_reducible refine br_ndec (fun _h => ?_) (fun _h => ?_)) <;> (first | (exfalso; omega) | simp only [decide_eq_false _h] | simp only [decide_eq_true _h] | skip)) | ((first | with_reducible refine br_not (fun _h => ?_) (fun _h => ?_) | with_reducible refine br_var (fun _h => ?_) (fun _h => ?_)) <;> (try simp only [_h])) | fail)
      · rw [bad_1 (by unfold OkT; omega)]
      · rw [bad_1 (by unfold OkT; omega)]
      · exact ⟨1, ⟨by omega, by omega, by omega, by omega, by omega, by omega⟩, by simp, rfl⟩
    · repeat' (first | (with_reducible refine in_seq ?_) | (with_reducible refine in_reg ?_) | (with_reducible refine in_block ?_) | (with_reducible refine in_cond ?_) | (with_reducible refine in_ret ?_) | (with_reducible refine in_skip ?_) | (simp (disch := omega) only [go_sem, Nat.reduceEqDiff, ↓reduceIte, reduceCtorEq, Nat.reduceAdd, Nat.reduceMul, Int.reduceToNat, List.reduceReplicate, Nat.reduceLeDiff, Nat.reduceLT, Int.reduceLT, Int.reduceLE, Int.reduceEq]) | (with_reducible refine giv_intro fun _h => ?_) | (with_reducible refine alt_intro ?_ (fun _h => ?_)) | ((first | with_reducible refine br_dec (fun _h => ?_) (fun _h => ?_) | with_reducible refine br_ndec (fun _h => ?_) (fun _h => ?_)) <;> (first | (exfalso; omega) | simp only [decide_eq_false _h] | simp only [decide_eq_true _h] | skip)) | ((first | with_reducible refine br_not (fun _h => ?_) (fun _h => ?_) | with_reducible refine br_var (fun _h => ?_) (fun _h => ?_)) <;> (try simp only [_h])) | fail)
      · rw [bad_1 (by unfold OkT; omega)]
      · rw [bad_1 (by unfold OkT; omega)]
      · exact ⟨2, ⟨by omega, by omega, by omega, by omega, by omega, by omega⟩, by simp, rfl⟩
    · repeat' (first | (with_reducible refine in_seq ?_) | (with_reducible refine in_reg ?_) | (with_reducible refine in_block ?_) | (with_reducible refine in_cond ?_) | (with_reducible refine in_ret ?_) | (with_reducible refine in_skip ?_) | (simp (disch := omega) only [go_sem, Nat.reduceEqDiff, ↓reduceIte, reduceCtorEq, Nat.reduceAdd, Nat.reduceMul, Int.reduceToNat, List.reduceReplicate, Nat.reduceLeDiff, Nat.reduceLT, Int.reduceLT, Int.reduceLE, Int.reduceEq]) | (with_reducible refine giv_intro fun _h => ?_) | (with_reducible refine alt_intro ?_ (fun _h => ?_)) | ((first | with_reducible refine br_dec (fun _h => ?_) (fun _h => ?_) | with_reducible refine br_ndec (fun _h => ?_) (fun _h => ?_)) <;> (first | (exfalso; omega) | simp only [decide_eq_false _h] | simp only [decide_eq_true _h] | skip)) | ((first | with_reducible refine br_not (fun _h => ?_) (fun _h => ?_) | with_reducible refine br_var (fun _h => ?_) (fun _h => ?_)) <;> (try simp only [_h])) | fail)
      · rw [bad_1 (by unfold OkT; omega)]
      · rw [bad_1 (by unfold OkT; omega)]
      · exact ⟨3, ⟨by omega, by omega, by omega, by omega, by omega, by omega⟩, by simp, rfl⟩
    · repeat' (first | (with_reducible refine in_seq ?_) | (with_reducible refine in_reg ?_) | (with_reducible refine in_block ?_) | (with_reducible refine in_cond ?_) | (with_reducible refine in_ret ?_) | (with_reducible refine in_skip ?_) | (simp (disch := omega) only [go_sem, Nat.reduceEqDiff, ↓reduceIte, reduceCtorEq, Nat.reduceAdd, Nat.reduceMul, Int.reduceToNat, List.reduceReplicate, Nat.reduceLeDiff, Nat.reduceLT, Int.reduceLT, Int.reduceLE, Int.reduceEq]) | (with_reducible refine giv_intro fun _h => ?_) | (with_reducible refine alt_intro ?_ (fun _h => ?_)) | ((first | with_reducible refine br_dec (fun _h => ?_) (fun _h => ?_) | with_reducible refine br_ndec (fun _h => ?_) (fun _h => ?_)) <;> (first | (exfalso; omega) | simp only [decide_eq_false _h] | simp only [decide_eq_true _h] | skip)) | ((first | with_reducible refine br_not (fun _h => ?_) (fun _h => ?_) | with_reducible refine br_var (fun _h => ?_) (fun _h => ?_)) <;> (try simp only [_h])) | fail)
      · rw [bad_1 (by unfold OkT; omega)]
      · rw [bad_1 (by unfold OkT; omega)]
      · exact ⟨4, ⟨by omega, by omega, by omega, by omega, by omega, by omega⟩, by simp, rfl⟩
    · repeat' (first | (with_reducible refine in_seq ?_) | (with_reducible refine in_reg ?_) | (with_reducible refine in_block ?_) | (with_reducible refine in_cond ?_) | (with_reducible refine in_ret ?_) | (with_reducible refine in_skip ?_) | (simp (disch := omega) only [go_sem, Nat.reduceEqDiff, ↓reduceIte, reduceCtorEq, Nat.reduceAdd, Nat.reduceMul, Int.reduceToNat, List.reduceReplicate, Nat.reduceLeDiff, Nat.reduceLT, Int.reduceLT, Int.reduceLE, Int.reduceEq]) | (with_reducible refine giv_intro fun _h => ?_) | (with_reducible refine alt_intro ?_ (fun _h => ?_)) | ((first | with_reducible refine br_dec (fun _h => ?_) (fun _h => ?_) | with_reducible refine br_ndec (fun _h => ?_) (fun _h => ?_)) <;> (first | (exfalso; omega) | simp only [decide_eq_false _h] | simp only [decide_eq_true _h] | skip)) | ((first | with_reducible refine br_not (fun _h => ?_) (fun _h => ?_) | with_reducible refine br_var (fun _h => ?_) (fun _h => ?_)) <;> (try simp only [_h])) | fail)
      · rw [bad_1 (by unfold OkT; omega)]
      · rw [bad_0 (by unfold OkT; omega)]

/-- ablaut/tally.share: 2 parameters, 0 captured -/
def s49 : SC := .seq (.reg [⟨(some 4), .alloc 27 2 [(.int .i64 0), (.int .i64 0)], none⟩])
  (.seq (.reg [⟨(some 6), .mv (.t 0), none⟩,
      ⟨(some 7), .mv (.t 1), none⟩,
      ⟨(some 8), .build [(.int .i64 0), (.int .i64 0)] [(0, 1, (.t 6)), (1, 1, (.t 7))], none⟩,
      ⟨(some 9), .call (.f 103) [(.t 8)], none⟩,
      ⟨(some 5), .alloc 124 2 [(.int .i64 0), (.int .i64 0)], none⟩,
      ⟨none, .store 2 (.t 5) (.t 9), none⟩])
   (.seq (.reg [⟨(some 10), .faddr 0 (.t 5), none⟩,
       ⟨(some 11), .load none (.t 10), none⟩,
       ⟨(some 12), .faddr 1 (.t 5), none⟩,
       ⟨(some 13), .load none (.t 12), none⟩,
       ⟨(some 14), .build [(.int .i64 0), (.int .i64 0)] [(0, 1, (.t 11)), (1, 1, (.t 13))], none⟩,
       ⟨none, .store 2 (.t 4) (.t 14), none⟩])
    (.ret)))
theorem s49_ok : lookF Try.prog 49 = some (s49, 15, [.cell 4 (some 2)]) := by kernel_rfl
theorem share_ok (x y : Nat) (h : 0 < Nat.gcd x y) (hx : x ≤ 9223372036854775807) (hy : y ≤ 9223372036854775807) : Fn P 49 [intA x, intA y] (frA ((x / Nat.gcd x y : Nat) : Int) ((y / Nat.gcd x y : Nat) : Int)) := by
  have hc := partLeast_ok x y h hx hy
  (refine fn_look s49_ok (by simp) (by intro k; simp only [go_sem, Nat.reduceEqDiff, ↓reduceIte, reduceCtorEq, Nat.reduceAdd, Nat.reduceMul, Int.reduceToNat, List.reduceReplicate, Nat.reduceLeDiff, Nat.reduceLT, Int.reduceLT, Int.reduceLE, Int.reduceEq]) fun S hS => cwp_sound _ _ _ _ ?_; simp (disch := omega) only [s49, go_sem, Nat.reduceEqDiff, ↓reduceIte, reduceCtorEq, Nat.reduceAdd, Nat.reduceMul, Int.reduceToNat, List.reduceReplicate, Nat.reduceLeDiff, Nat.reduceLT, Int.reduceLT, Int.reduceLE, Int.reduceEq])
  repeat' (first | (with_reducible refine in_seq ?_) | (with_reducible refine in_reg ?_) | (with_reducible refine in_block ?_) | (with_reducible refine in_cond ?_) | (with_reducible refine in_ret ?_) | (with_reducible refine in_skip ?_) | (simp (disch := omega) only [go_sem, Nat.reduceEqDiff, ↓reduceIte, reduceCtorEq, Nat.reduceAdd, Nat.reduceMul, Int.reduceToNat, List.reduceReplicate, Nat.reduceLeDiff, Nat.reduceLT, Int.reduceLT, Int.reduceLE, Int.reduceEq]) | (with_reducible refine giv_intro fun _h => ?_) | (with_reducible refine alt_intro ?_ (fun _h => ?_)) | ((first | with_reducible refine br_dec (fun _h => ?_) (fun _h => ?_) | with_reducible refine br_ndec (fun _h => ?_) (fun _h => ?_)) <;> (first | (exfalso; omega) | simp only [decide_eq_false _h] | simp only [decide_eq_true _h] | skip)) | ((first | with_reducible refine br_not (fun _h => ?_) (fun _h => ?_) | with_reducible refine br_var (fun _h => ?_) (fun _h => ?_)) <;> (try simp only [_h])) | ((with_reducible apply call (hc)); (focus (simp (disch := omega) only [go_sem, Nat.reduceEqDiff, ↓reduceIte, reduceCtorEq, Nat.reduceAdd, Nat.reduceMul, Int.reduceToNat, List.reduceReplicate, Nat.reduceLeDiff, Nat.reduceLT, Int.reduceLT, Int.reduceLE, Int.reduceEq]; (try rfl); done))) | fail)

/-- In how many ways. -/
def exW (a b c d : Nat) : Nat := bin (a + b) a * bin (c + d) c
def allW (a b c d : Nat) : Nat := bin (a + b + c + d) (a + c)
/-- ablaut/tally.Exact: 1 parameters, 0 captured -/
def s16 : SC := .seq (.reg [⟨(some 1), .box 22 4 (.t 0), none⟩,
     ⟨(some 2), .alloc 27 2 [(.int .i64 0), (.int .i64 0)], none⟩,
     ⟨(some 3), .mv (.c (.int .i64 0)), none⟩])
  (.seq (.seq (.reg [⟨(some 5), .load (some 4) (.t 1), none⟩,
       ⟨(some 6), .call (.f 47) [(.t 5)], none⟩,
       ⟨(some 4), .mv (.t 6), none⟩])
    (.seq (.reg [⟨(some 7), .mv (.t 4), none⟩,
        ⟨(some 8), .bin .neq (.t 7) (.c (.int .i64 0)), none⟩])
     (.cond (.t 8) (.seq (.reg [⟨(some 9), .build [(.int .i64 0), (.int .i64 0)] [], none⟩,
          ⟨(some 10), .mv (.t 4), none⟩,
          ⟨none, .store 2 (.t 2) (.t 9), none⟩,
          ⟨(some 3), .mv (.t 10), none⟩])
       (.ret)) (.skip))))
   (.seq (.reg [⟨(some 11), .load (some 4) (.t 1), none⟩,
       ⟨(some 12), .call (.f 50) [(.t 11)], none⟩,
       ⟨(some 13), .ext (.t 12) 0, none⟩,
       ⟨(some 14), .ext (.t 12) 1, none⟩,
       ⟨(some 15), .call (.f 49) [(.t 13), (.t 14)], none⟩,
       ⟨none, .store 2 (.t 2) (.t 15), none⟩,
       ⟨(some 3), .mv (.c (.int .i64 0)), none⟩])
    (.ret)))
theorem s16_ok : lookF Try.prog 16 = some (s16, 16, [.cell 2 (some 2), .tmp 3]) := by kernel_rfl
theorem exact_ok (a b c d : Nat) (h : a + b + c + d ≤ 40) (hg : exW a b c d ≤ 9223372036854775807) (ha : allW a b c d ≤ 9223372036854775807) (hp : 0 < allW a b c d) : Fn P 16 [tabA a b c d] (.tup [frA ((exW a b c d / Nat.gcd (exW a b c d) (allW a b c d) : Nat) : Int) ((allW a b c d / Nat.gcd (exW a b c d) (allW a b c d) : Nat) : Int), intA 0]) := by
  have c1 := four_ok a b c d
  rw [bad_0 (by unfold OkT; omega)] at c1
  have c2 := tables_ok a b c d h
  have c3 := share_ok (exW a b c d) (allW a b c d) (Nat.gcd_pos_of_pos_right _ hp) hg ha
  (refine fn_look s16_ok (by simp) (by intro k; simp only [go_sem, Nat.reduceEqDiff, ↓reduceIte, reduceCtorEq, Nat.reduceAdd, Nat.reduceMul, Int.reduceToNat, List.reduceReplicate, Nat.reduceLeDiff, Nat.reduceLT, Int.reduceLT, Int.reduceLE, Int.reduceEq]) fun S hS => cwp_sound _ _ _ _ ?_; simp (disch := omega) only [s16, go_sem, Nat.reduceEqDiff, ↓reduceIte, reduceCtorEq, Nat.reduceAdd, Nat.reduceMul, Int.reduceToNat, List.reduceReplicate, Nat.reduceLeDiff, Nat.reduceLT, Int.reduceLT, Int.reduceLE, Int.reduceEq])
  repeat' (first | (with_reducible refine in_seq ?_) | (with_reducible refine in_reg ?_) | (with_reducible refine in_block ?_) | (with_reducible refine in_cond ?_) | (with_reducible refine in_ret ?_) | (with_reducible refine in_skip ?_) | (simp (disch := omega) only [go_sem, Nat.reduceEqDiff, ↓reduceIte, reduceCtorEq, Nat.reduceAdd, Nat.reduceMul, Int.reduceToNat, List.reduceReplicate, Nat.reduceLeDiff, Nat.reduceLT, Int.reduceLT, Int.reduceLE, Int.reduceEq]) | (with_reducible refine giv_intro fun _h => ?_) | (with_reducible refine alt_intro ?_ (fun _h => ?_)) | ((first | with_reducible refine br_dec (fun _h => ?_) (fun _h => ?_) | with_reducible refine br_ndec (fun _h => ?_) (fun _h => ?_)) <;> (first | (exfalso; omega) | simp only [decide_eq_false _h] | simp only [decide_eq_true _h] | skip)) | ((first | with_reducible refine br_not (fun _h => ?_) (fun _h => ?_) | with_reducible refine br_var (fun _h => ?_) (fun _h => ?_)) <;> (try simp only [_h])) | ((with_reducible apply call (c1)); (focus (simp (disch := omega) only [go_sem, Nat.reduceEqDiff, ↓reduceIte, reduceCtorEq, Nat.reduceAdd, Nat.reduceMul, Int.reduceToNat, List.reduceReplicate, Nat.reduceLeDiff, Nat.reduceLT, Int.reduceLT, Int.reduceLE, Int.reduceEq]; (try rfl); done))) | ((with_reducible apply call (c2)); (focus (simp (disch := omega) only [go_sem, Nat.reduceEqDiff, ↓reduceIte, reduceCtorEq, Nat.reduceAdd, Nat.reduceMul, Int.reduceToNat, List.reduceReplicate, Nat.reduceLeDiff, Nat.reduceLT, Int.reduceLT, Int.reduceLE, Int.reduceEq]; (try rfl); done))) | ((with_reducible apply call (c3)); (focus (simp (disch := omega) only [go_sem, Nat.reduceEqDiff, ↓reduceIte, reduceCtorEq, Nat.reduceAdd, Nat.reduceMul, Int.reduceToNat, List.reduceReplicate, Nat.reduceLeDiff, Nat.reduceLT, Int.reduceLT, Int.reduceLE, Int.reduceEq]; (try rfl); done))) | fail)
theorem exact_no (a b c d : Int) (h : ¬ OkT a b c d) : Fn P 16 [tabI a b c d] (.tup [frA 0 0, intA 1]) := by
  have c1 := four_ok a b c d
  rw [bad_1 h] at c1
  (refine fn_look s16_ok (by simp) (by intro k; simp only [go_sem, Nat.reduceEqDiff, ↓reduceIte, reduceCtorEq, Nat.reduceAdd, Nat.reduceMul, Int.reduceToNat, List.reduceReplicate, Nat.reduceLeDiff, Nat.reduceLT, Int.reduceLT, Int.reduceLE, Int.reduceEq]) fun S hS => cwp_sound _ _ _ _ ?_; simp (disch := omega) only [s16, go_sem, Nat.reduceEqDiff, ↓reduceIte, reduceCtorEq, Nat.reduceAdd, Nat.reduceMul, Int.reduceToNat, List.reduceReplicate, Nat.reduceLeDiff, Nat.reduceLT, Int.reduceLT, Int.reduceLE, Int.reduceEq])
  repeat' (first | (with_reducible refine in_seq ?_) | (with_reducible refine in_reg ?_) | (with_reducible refine in_block ?_) | (with_reducible refine in_cond ?_) | (with_reducible refine in_ret ?_) | (with_reducible refine in_skip ?_) | (simp (disch := omega) only [go_sem, Nat.reduceEqDiff, ↓reduceIte, reduceCtorEq, Nat.reduceAdd, Nat.reduceMul, Int.reduceToNat, List.reduceReplicate, Nat.reduceLeDiff, Nat.reduceLT, Int.reduceLT, Int.reduceLE, Int.reduceEq]) | (with_reducible refine giv_intro fun _h => ?_) | (with_reducible refine alt_intro ?_ (fun _h => ?_)) | ((first | with_reducible refine br_dec (fun _h => ?_) (fun _h => ?_) | with_reducible refine br_ndec (fun _h => ?_) (fun _h => ?_)) <;> (first | (exfalso; omega) | simp only [decide_eq_false _h] | simp only [decide_eq_true _h] | skip)) | ((first | with_reducible refine br_not (fun _h => ?_) (fun _h => ?_) | with_reducible refine br_var (fun _h => ?_) (fun _h => ?_)) <;> (try simp only [_h])) | ((with_reducible apply call (c1)); (focus (simp (disch := omega) only [go_sem, Nat.reduceEqDiff, ↓reduceIte, reduceCtorEq, Nat.reduceAdd, Nat.reduceMul, Int.reduceToNat, List.reduceReplicate, Nat.reduceLeDiff, Nat.reduceLT, Int.reduceLT, Int.reduceLE, Int.reduceEq]; (try rfl); done))) | fail)
end Go.Proofs.Ytedbjmonfbpefaa.Ev

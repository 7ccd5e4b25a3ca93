/- The reference's tables of four. -/
import Derived.Test.YtedbjmonfbpefaaFnG
set_option linter.unusedVariables false
set_option linter.unusedSimpArgs false
namespace Go.Proofs.Ytedbjmonfbpefaa.Ev
open Go Go.Proofs

/-- ablaut/ablautref27.least: 2 parameters, 0 captured -/
def s53 : SC := .seq (.reg [⟨(some 4), .alloc 27 2 [(.int .i64 0), (.int .i64 0)], none⟩])
  (.seq (.reg [⟨(some 7), .mv (.t 0), none⟩,
      ⟨(some 8), .mv (.t 1), none⟩,
      ⟨(some 5), .mv (.t 7), none⟩,
      ⟨(some 6), .mv (.t 8), none⟩])
   (.seq (.block 0 (.loop (.seq (.seq (.reg [⟨(some 9), .mv (.t 6), none⟩,
           ⟨(some 10), .bin .neq (.t 9) (.c (.int .i64 0)), none⟩])
        (.cond (.t 10) (.skip) (.exit 0)))
       (.block 1 (.regD [⟨(some 11), .mv (.t 6), none⟩,
           ⟨(some 12), .mv (.t 5), none⟩,
           ⟨(some 13), .mv (.t 6), none⟩,
           ⟨(some 14), .bin .rem (.t 12) (.t 13), none⟩,
           ⟨(some 5), .mv (.t 11), none⟩,
           ⟨(some 6), .mv (.t 14), none⟩])))))
    (.seq (.regE [⟨(some 15), .mv (.t 0), none⟩,
        ⟨(some 16), .mv (.t 5), none⟩,
        ⟨(some 17), .bin .quo (.t 15) (.t 16), none⟩,
        ⟨(some 18), .mv (.t 1), none⟩,
        ⟨(some 19), .mv (.t 5), none⟩,
        ⟨(some 20), .bin .quo (.t 18) (.t 19), none⟩,
        ⟨(some 21), .build [(.int .i64 0), (.int .i64 0)] [(0, 1, (.t 17)), (1, 1, (.t 20))], none⟩,
        ⟨none, .store 2 (.t 4) (.t 21), none⟩])
     (.ret))))
theorem s53_ok : lookF Try.prog 53 = some (s53, 22, [.cell 4 (some 2)]) := by kernel_rfl
theorem refLeast_ok (a b : Nat) (h : 0 < Nat.gcd a b) (ha : a ≤ 9223372036854775807) (hb : b ≤ 9223372036854775807) : Fn P 53 [intA a, intA b] (frA ((a / Nat.gcd a b : Nat) : Int) ((b / Nat.gcd a b : Nat) : Int)) := by
  (refine fn_look s53_ok (by simp) (by intro k; simp only [go_sem, Nat.reduceEqDiff, ↓reduceIte, reduceCtorEq, Nat.reduceAdd, Nat.reduceMul, Int.reduceToNat, List.reduceReplicate, Nat.reduceLeDiff, Nat.reduceLT, Int.reduceLT, Int.reduceLE, Int.reduceEq]) fun S hS => cwp_sound _ _ _ _ ?_; simp (disch := omega) only [s53, go_sem, Nat.reduceEqDiff, ↓reduceIte, reduceCtorEq, Nat.reduceAdd, Nat.reduceMul, Int.reduceToNat, List.reduceReplicate, Nat.reduceLeDiff, Nat.reduceLT, Int.reduceLT, Int.reduceLE, Int.reduceEq])
  repeat' (first | (with_reducible refine in_seq ?_) | (with_reducible refine in_reg ?_) | (with_reducible refine in_block ?_) | (with_reducible refine in_cond ?_) | (with_reducible refine in_ret ?_) | (with_reducible refine in_skip ?_) | (simp (disch := omega) only [go_sem, Nat.reduceEqDiff, ↓reduceIte, reduceCtorEq, Nat.reduceAdd, Nat.reduceMul, Int.reduceToNat, List.reduceReplicate, Nat.reduceLeDiff, Nat.reduceLT, Int.reduceLT, Int.reduceLE, Int.reduceEq]) | (with_reducible refine giv_intro fun _h => ?_) | (with_reducible refine alt_intro ?_ (fun _h => ?_)) | ((first | with_reducible refine br_dec (fun _h => ?_) (fun _h => ?_) | with_reducible refine br_ndec (fun _h => ?_) (fun _h => ?_)) <;> (first | (exfalso; omega) | simp only [decide_eq_false _h] | simp only [decide_eq_true _h] | skip)) | ((first | with_reducible refine br_not (fun _h => ?_) (fun _h => ?_) | with_reducible refine br_var (fun _h => ?_) (fun _h => ?_)) <;> (try simp only [_h])) | fail)
  (refine loopC hS [0, 1, 4] (by simp only [go_sem, Nat.reduceEqDiff, ↓reduceIte, reduceCtorEq, Nat.reduceAdd, Nat.reduceMul, Int.reduceToNat, List.reduceReplicate, Nat.reduceLeDiff, Nat.reduceLT, Int.reduceLT, Int.reduceLE, Int.reduceEq]; try rfl) (fun (⟨x, y⟩ : Nat × Nat) => [(5, intA x), (6, intA y)]) (fun (⟨x, y⟩ : Nat × Nat) => [some (.row 27 2 [intA 0, intA 0])]) (fun (⟨x, y⟩ : Nat × Nat) => Nat.gcd x y = Nat.gcd a b ∧ x ≤ 9223372036854775807 ∧ y ≤ 9223372036854775807) (fun (⟨x, y⟩ : Nat × Nat) => y) ((a, b)) ?h01 ?hn1 ?rd1; case hn1 => (intro s; first | rfl | (rcases s with ⟨_, _⟩; rfl) | (rcases s with ⟨_, _, _⟩; rfl) | (rcases s with ⟨_, _, _, _⟩; rfl) | (rcases s with ⟨_, _, _, _, _⟩; rfl)))
  · simp (disch := omega) only [go_sem, Nat.reduceEqDiff, ↓reduceIte, reduceCtorEq, Nat.reduceAdd, Nat.reduceMul, Int.reduceToNat, List.reduceReplicate, Nat.reduceLeDiff, Nat.reduceLT, Int.reduceLT, Int.reduceLE, Int.reduceEq]; exact ⟨ha, hb⟩
  · rintro ⟨x, y⟩ ⟨hg, hx, hy⟩
    replace hg : Nat.gcd x y = Nat.gcd a b := hg
    replace hx : x ≤ 9223372036854775807 := hx
    replace hy : y ≤ 9223372036854775807 := hy
    rcases Nat.eq_zero_or_pos y with rfl | hy0
    · rw [Nat.gcd_zero_right] at hg
      subst hg
      have d1 := Nat.div_le_self a (Nat.gcd a b)
      have d2 := Nat.div_le_self b (Nat.gcd a b)
      generalize hq : a / Nat.gcd a b = q at *
      generalize hr : b / Nat.gcd a b = r at *
      repeat' (first | (with_reducible refine in_seq ?_) | (with_reducible refine in_reg ?_) | (with_reducible refine in_block ?_) | (with_reducible refine in_cond ?_) | (with_reducible refine in_ret ?_) | (with_reducible refine in_skip ?_) | (simp (disch := omega) only [go_sem, Nat.reduceEqDiff, ↓reduceIte, reduceCtorEq, Nat.reduceAdd, Nat.reduceMul, Int.reduceToNat, List.reduceReplicate, Nat.reduceLeDiff, Nat.reduceLT, Int.reduceLT, Int.reduceLE, Int.reduceEq, tdiv_nat, hq, hr]) | (with_reducible refine giv_intro fun _h => ?_) | (with_reducible refine alt_intro ?_ (fun _h => ?_)) | ((first | with_reducible refine br_dec (fun _h => ?_) (fun _h => ?_) | with_reducible refine br_ndec (fun _h => ?_) (fun _h => ?_)) <;> (first | (exfalso; omega) | simp only [decide_eq_false _h] | simp only [decide_eq_true _h] | skip)) | ((first | with_reducible refine br_not (fun _h => ?_) (fun _h => ?_) | with_reducible refine br_var (fun _h => ?_) (fun _h => ?_)) <;> (try simp only [_h])) | fail)
    · repeat' (first | (with_reducible refine in_seq ?_) | (with_reducible refine in_reg ?_) | (with_reducible refine in_block ?_) | (with_reducible refine in_cond ?_) | (with_reducible refine in_ret ?_) | (with_reducible refine in_skip ?_) | (simp (disch := omega) only [go_sem, Nat.reduceEqDiff, ↓reduceIte, reduceCtorEq, Nat.reduceAdd, Nat.reduceMul, Int.reduceToNat, List.reduceReplicate, Nat.reduceLeDiff, Nat.reduceLT, Int.reduceLT, Int.reduceLE, Int.reduceEq, tmod_nat]) | (with_reducible refine giv_intro fun _h => ?_) | (with_reducible refine alt_intro ?_ (fun _h => ?_)) | ((first | with_reducible refine br_dec (fun _h => ?_) (fun _h => ?_) | with_reducible refine br_ndec (fun _h => ?_) (fun _h => ?_)) <;> (first | (exfalso; omega) | simp only [decide_eq_false _h] | simp only [decide_eq_true _h] | skip)) | ((first | with_reducible refine br_not (fun _h => ?_) (fun _h => ?_) | with_reducible refine br_var (fun _h => ?_) (fun _h => ?_)) <;> (try simp only [_h])) | fail)
      · refine ⟨(y, x % y), ⟨Nat.mod_lt _ hy0, by rw [← hg]; exact (gcd_step x y (by omega)).symm, hy, ?_⟩, rfl, rfl⟩
        have := Nat.mod_lt x hy0; show x % y ≤ _; omega

def okB (a b c d : Int) : Bool := decide (OkT a b c d)
/-- ablaut/ablautref27.isTable: 1 parameters, 0 captured -/
def s52 : SC := .seq (.reg [⟨(some 1), .box 22 4 (.t 0), none⟩,
     ⟨(some 2), .mv (.c (.bool false)), none⟩])
  (.seq (.reg [⟨(some 3), .mv (.c (.int .i64 0)), none⟩])
   (.seq (.seq (.reg [⟨(some 4), .mv (.c (.int .i64 0)), none⟩])
     (.block 0 (.loop (.seq (.seq (.reg [⟨(some 5), .mv (.t 4), none⟩,
            ⟨(some 6), .bin .lss (.t 5) (.c (.int .i64 4)), none⟩])
         (.cond (.t 6) (.skip) (.exit 0)))
        (.seq (.block 1 (.seq (.seq (.reg [⟨(some 9), .mv (.t 4), none⟩,
               ⟨(some 10), .iaddrA 4 1 (.t 1) (.t 9), none⟩,
               ⟨(some 11), .load none (.t 10), none⟩,
               ⟨(some 12), .bin .lss (.t 11) (.c (.int .i64 0)), none⟩,
               ⟨(some 13), .mv (.t 12), none⟩,
               ⟨(some 14), .mv (.t 4), some (13, false)⟩,
               ⟨(some 15), .iaddrA 4 1 (.t 1) (.t 14), some (13, false)⟩,
               ⟨(some 16), .load none (.t 15), some (13, false)⟩,
               ⟨(some 17), .bin .gtr (.t 16) (.c (.int .i64 40)), some (13, false)⟩,
               ⟨(some 18), .pick (.t 13) (.c (.bool true)) (.t 17), none⟩])
            (.cond (.t 18) (.seq (.reg [⟨(some 2), .mv (.c (.bool false)), none⟩])
              (.ret)) (.skip)))
           (.reg [⟨(some 19), .mv (.t 3), none⟩,
              ⟨(some 20), .mv (.t 4), none⟩,
              ⟨(some 21), .iaddrA 4 1 (.t 1) (.t 20), none⟩,
              ⟨(some 22), .load none (.t 21), none⟩,
              ⟨(some 23), .bin .add (.t 19) (.t 22), none⟩,
              ⟨(some 3), .mv (.t 23), none⟩])))
         (.reg [⟨(some 7), .mv (.t 4), none⟩,
            ⟨(some 8), .bin .add (.t 7) (.c (.int .i64 1)), none⟩,
            ⟨(some 4), .mv (.t 8), none⟩]))))))
    (.seq (.reg [⟨(some 24), .mv (.t 3), none⟩,
        ⟨(some 25), .bin .leq (.t 24) (.c (.int .i64 40)), none⟩,
        ⟨(some 2), .mv (.t 25), none⟩])
     (.ret))))
theorem s52_ok : lookF Try.prog 52 = some (s52, 26, [.tmp 2]) := by kernel_rfl
theorem isTable_ok (a b c d : Int) : Fn P 52 [tabI a b c d] (boolA (okB a b c d)) := by
  (refine fn_look s52_ok (by simp) (by intro k; simp only [go_sem, Nat.reduceEqDiff, ↓reduceIte, reduceCtorEq, Nat.reduceAdd, Nat.reduceMul, Int.reduceToNat, List.reduceReplicate, Nat.reduceLeDiff, Nat.reduceLT, Int.reduceLT, Int.reduceLE, Int.reduceEq]) fun S hS => cwp_sound _ _ _ _ ?_; simp (disch := omega) only [s52, go_sem, Nat.reduceEqDiff, ↓reduceIte, reduceCtorEq, Nat.reduceAdd, Nat.reduceMul, Int.reduceToNat, List.reduceReplicate, Nat.reduceLeDiff, Nat.reduceLT, Int.reduceLT, Int.reduceLE, Int.reduceEq])
  repeat' (first | (with_reducible refine in_seq ?_) | (with_reducible refine in_reg ?_) | (with_reducible refine in_block ?_) | (with_reducible refine in_cond ?_) | (with_reducible refine in_ret ?_) | (with_reducible refine in_skip ?_) | (simp (disch := omega) only [go_sem, Nat.reduceEqDiff, ↓reduceIte, reduceCtorEq, Nat.reduceAdd, Nat.reduceMul, Int.reduceToNat, List.reduceReplicate, Nat.reduceLeDiff, Nat.reduceLT, Int.reduceLT, Int.reduceLE, Int.reduceEq]) | (with_reducible refine giv_intro fun _h => ?_) | (with_reducible refine alt_intro ?_ (fun _h => ?_)) | ((first | with_reducible refine br_dec (fun _h => ?_) (fun _h => ?_) | with_reducible refine br_ndec (fun _h => ?_) (fun _h => ?_)) <;> (first | (exfalso; omega) | simp only [decide_eq_false _h] | simp only [decide_eq_true _h] | skip)) | ((first | with_reducible refine br_not (fun _h => ?_) (fun _h => ?_) | with_reducible refine br_var (fun _h => ?_) (fun _h => ?_)) <;> (try simp only [_h])) | fail)
  (refine loopC hS [1] (by simp only [go_sem, Nat.reduceEqDiff, ↓reduceIte, reduceCtorEq, Nat.reduceAdd, Nat.reduceMul, Int.reduceToNat, List.reduceReplicate, Nat.reduceLeDiff, Nat.reduceLT, Int.reduceLT, Int.reduceLE, Int.reduceEq]; try rfl) (fun (i : Nat) => [(3, intA (pre4 a b c d i)), (4, intA i)]) (fun (i : Nat) => [some (.row 22 4 [intA a, intA b, intA c, intA d])]) (fun (i : Nat) => i ≤ 4 ∧ (i = 0 ∨ (0 ≤ a ∧ a ≤ 40)) ∧ (i ≤ 1 ∨ (0 ≤ b ∧ b ≤ 40)) ∧ (i ≤ 2 ∨ (0 ≤ c ∧ c ≤ 40)) ∧ (i ≤ 3 ∨ (0 ≤ d ∧ d ≤ 40))) (fun (i : Nat) => 4 - i) (0) ?h02 ?hn2 ?rd2; case hn2 => (intro s; first | rfl | (rcases s with ⟨_, _⟩; rfl) | (rcases s with ⟨_, _, _⟩; rfl) | (rcases s with ⟨_, _, _, _⟩; rfl) | (rcases s with ⟨_, _, _, _, _⟩; rfl)))
  · simp (disch := omega) only [go_sem, Nat.reduceEqDiff, ↓reduceIte, reduceCtorEq, Nat.reduceAdd, Nat.reduceMul, Int.reduceToNat, List.reduceReplicate, Nat.reduceLeDiff, Nat.reduceLT, Int.reduceLT, Int.reduceLE, Int.reduceEq]; simp [pre4]
  · rintro i ⟨h0, h1, h2, h3, h4⟩
    replace h0 : i ≤ 4 := h0
    replace h1 : i = 0 ∨ (0 ≤ a ∧ a ≤ 40) := h1
    replace h2 : i ≤ 1 ∨ (0 ≤ b ∧ b ≤ 40) := h2
    replace h3 : i ≤ 2 ∨ (0 ≤ c ∧ c ≤ 40) := h3
    replace h4 : i ≤ 3 ∨ (0 ≤ d ∧ d ≤ 40) := h4
    have hi : i = 0 ∨ i = 1 ∨ i = 2 ∨ i = 3 ∨ i = 4 := by omega
    rcases hi with rfl | rfl | rfl | rfl | rfl <;> simp only [pre4]
    · repeat' (first | (with_reducible refine in_seq ?_) | (with_reducible refine in_reg ?_) | (with_reducible refine in_block ?_) | (with_reducible refine in_cond ?_) | (with_reducible refine in_ret ?_) | (with_reducible refine in_skip ?_) | (simp (disch := omega) only [go_sem, Nat.reduceEqDiff, ↓reduceIte, reduceCtorEq, Nat.reduceAdd, Nat.reduceMul, Int.reduceToNat, List.reduceReplicate, Nat.reduceLeDiff, Nat.reduceLT, Int.reduceLT, Int.reduceLE, Int.reduceEq]) | (with_reducible refine giv_intro fun _h => ?_) | (with_reducible refine alt_intro ?_ (fun _h => ?_)) | ((first | with_reducible refine br_dec (fun _h => ?_) (fun _h => ?_) | with_reducible refine br_ndec (fun _h => ?_) (fun _h => ?_)) <;> (first | (exfalso; omega) | simp only [decide_eq_false _h] | simp only [decide_eq_true _h] | skip)) | ((first | with_reducible refine br_not (fun _h => ?_) (fun _h => ?_) | with_reducible refine br_var (fun _h => ?_) (fun _h => ?_)) <;> (try simp only [_h])) | fail)
      · exact (decide_eq_false (by unfold OkT; omega)).symm
      · exact (decide_eq_false (by unfold OkT; omega)).symm
      · exact ⟨1, ⟨by omega, by omega, by omega, by omega, by omega, by omega⟩, by simp, rfl⟩
    · repeat' (first | (with_reducible refine in_seq ?_) | (with_reducible refine in_reg ?_) | (with_reducible refine in_block ?_) | (with_reducible refine in_cond ?_) | (with_reducible refine in_ret ?_) | (with_reducible refine in_skip ?_) | (simp (disch := omega) only [go_sem, Nat.reduceEqDiff, ↓reduceIte, reduceCtorEq, Nat.reduceAdd, Nat.reduceMul, Int.reduceToNat, List.reduceReplicate, Nat.reduceLeDiff, Nat.reduceLT, Int.reduceLT, Int.reduceLE, Int.reduceEq]) | (with_reducible refine giv_intro fun _h => ?_) | (with_reducible refine alt_intro ?_ (fun _h => ?_)) | ((first | with_reducible refine br_dec (fun _h => ?_) (fun _h => ?_) | with_reducible refine br_ndec (fun _h => ?_) (fun _h => ?_)) <;> (first | (exfalso; omega) | simp only [decide_eq_false _h] | simp only [decide_eq_true _h] | skip)) | ((first | with_reducible refine br_not (fun _h => ?_) (fun _h => ?_) | with_reducible refine br_var (fun _h => ?_) (fun _h => ?_)) <;> (try simp only [_h])) | fail)
      · exact (decide_eq_false (by unfold OkT; omega)).symm
      · exact (decide_eq_false (by unfold OkT; omega)).symm
      · exact ⟨2, ⟨by omega, by omega, by omega, by omega, by omega, by omega⟩, by simp, rfl⟩
    · repeat' (first | (with_reducible refine in_seq ?_) | (with_reducible refine in_reg ?_) | (with_reducible refine in_block ?_) | (with_reducible refine in_cond ?_) | (with_reducible refine in_ret ?_) | (with_reducible refine in_skip ?_) | (simp (disch := omega) only [go_sem, Nat.reduceEqDiff, ↓reduceIte, reduceCtorEq, Nat.reduceAdd, Nat.reduceMul, Int.reduceToNat, List.reduceReplicate, Nat.reduceLeDiff, Nat.reduceLT, Int.reduceLT, Int.reduceLE, Int.reduceEq]) | (with_reducible refine giv_intro fun _h => ?_) | (with_reducible refine alt_intro ?_ (fun _h => ?_)) | ((first | with_reducible refine br_dec (fun _h => ?_) (fun _h => ?_) | with_reducible refine br_ndec (fun _h => ?_) (fun _h => ?_)) <;> (first | (exfalso; omega) | simp only [decide_eq_false _h] | simp only [decide_eq_true _h] | skip)) | ((first | with_reducible refine br_not (fun _h => ?_) (fun _h => ?_) | with_reducible refine br_var (fun _h => ?_) (fun _h => ?_)) <;> (try simp only [_h])) | fail)
      · exact (decide_eq_false (by unfold OkT; omega)).symm
      · exact (decide_eq_false (by unfold OkT; omega)).symm
      · exact ⟨3, ⟨by omega, by omega, by omega, by omega, by omega, by omega⟩, by simp, rfl⟩
    · repeat' (first | (with_reducible refine in_seq ?_) | (with_reducible refine in_reg ?_) | (with_reducible refine in_block ?_) | (with_reducible refine in_cond ?_) | (with_reducible refine in_ret ?_) | (with_reducible refine in_skip ?_) | (simp (disch := omega) only [go_sem, Nat.reduceEqDiff, ↓reduceIte, reduceCtorEq, Nat.reduceAdd, Nat.reduceMul, Int.reduceToNat, List.reduceReplicate, Nat.reduceLeDiff, Nat.reduceLT, Int.reduceLT, Int.reduceLE, Int.reduceEq]) | (with_reducible refine giv_intro fun _h => ?_) | (with_reducible refine alt_intro ?_ (fun _h => ?_)) | ((first | with_reducible refine br_dec (fun _h => ?_) (fun _h => ?_) | with_reducible refine br_ndec (fun _h => ?_) (fun _h => ?_)) <;> (first | (exfalso; omega) | simp only [decide_eq_false _h] | simp only [decide_eq_true _h] | skip)) | ((first | with_reducible refine br_not (fun _h => ?_) (fun _h => ?_) | with_reducible refine br_var (fun _h => ?_) (fun _h => ?_)) <;> (try simp only [_h])) | fail)
      · exact (decide_eq_false (by unfold OkT; omega)).symm
      · exact (decide_eq_false (by unfold OkT; omega)).symm
      · exact ⟨4, ⟨by omega, by omega, by omega, by omega, by omega, by omega⟩, by simp, rfl⟩
    · repeat' (first | (with_reducible refine in_seq ?_) | (with_reducible refine in_reg ?_) | (with_reducible refine in_block ?_) | (with_reducible refine in_cond ?_) | (with_reducible refine in_ret ?_) | (with_reducible refine in_skip ?_) | (simp (disch := omega) only [go_sem, Nat.reduceEqDiff, ↓reduceIte, reduceCtorEq, Nat.reduceAdd, Nat.reduceMul, Int.reduceToNat, List.reduceReplicate, Nat.reduceLeDiff, Nat.reduceLT, Int.reduceLT, Int.reduceLE, Int.reduceEq]) | (with_reducible refine giv_intro fun _h => ?_) | (with_reducible refine alt_intro ?_ (fun _h => ?_)) | ((first | with_reducible refine br_dec (fun _h => ?_) (fun _h => ?_) | with_reducible refine br_ndec (fun _h => ?_) (fun _h => ?_)) <;> (first | (exfalso; omega) | simp only [decide_eq_false _h] | simp only [decide_eq_true _h] | skip)) | ((first | with_reducible refine br_not (fun _h => ?_) (fun _h => ?_) | with_reducible refine br_var (fun _h => ?_) (fun _h => ?_)) <;> (try simp only [_h])) | fail)
      unfold okB
      congr 1
      exact propext ⟨fun h => ⟨by omega, by omega, by omega, by omega, by omega⟩, fun h => h.2.2.2.2⟩

/-- A row of Pascal's triangle, n + 2 places. -/
def pas (n j : Nat) : List Int := (List.range (n + 2)).map fun i => ((bin j i : Nat) : Int)
/-- The next row, made from the right down to i. -/
def pasM (n j i : Nat) : List Int := (List.range (n + 2)).map fun x => ((if i < x then bin (j + 1) x else bin j x : Nat) : Int)
theorem nth_map (f : Nat → Int) (m x : Nat) (h : x < m) : nth ((List.range m).map f) x = f x := by
  unfold nth
  simp [h]
theorem pas_start (n : Nat) : (1 : Int) :: List.drop 1 (List.replicate (n + 2) 0) = pas n 0 := by
  refine List.ext_getElem (by simp [pas]) fun i h1 h2 => ?_
  cases i with
  | zero => simp [pas, bin]
  | succ i => simp [pas, bin]
theorem pasM_start (n j : Nat) : pas n j = pasM n j (j + 1) := by
  refine List.map_congr_left fun x hx => ?_
  by_cases h : j + 1 < x
  · rw [if_pos h, bin_gt j x (by omega), bin_gt (j + 1) x (by omega)]
  · rw [if_neg h]
theorem pasM_end (n j : Nat) : pasM n j 0 = pas n (j + 1) := by
  refine List.map_congr_left fun x hx => ?_
  by_cases h : 0 < x
  · rw [if_pos h]
  · rw [if_neg h, show x = 0 by omega, bin_zero, bin_zero]
theorem pasM_set (n j i : Nat) (h0 : 0 < i) (hi : i < n + 2) : (pasM n j i).set i ((bin (j + 1) i : Nat) : Int) = pasM n j (i - 1) := by
  refine List.ext_getElem (by simp [pasM]) fun x h1 h2 => ?_
  rw [List.getElem_set]
  simp only [pasM, List.getElem_map, List.getElem_range]
  by_cases h : i = x
  · subst h
    rw [if_pos rfl, if_pos (by omega)]
  · rw [if_neg h]
    by_cases h3 : i < x
    · rw [if_pos h3, if_pos (by omega)]
    · rw [if_neg h3, if_neg (by omega)]
/-- ablaut/ablautref27.chosen: 2 parameters, 0 captured -/
def s51 : SC := .seq (.reg [⟨(some 4), .mv (.c (.int .i64 0)), none⟩])
  (.seq (.reg [⟨(some 8), .mv (.t 0), none⟩,
      ⟨(some 9), .bin .add (.t 8) (.c (.int .i64 2)), none⟩,
      ⟨(some 10), .mksl 3 1 8 [(.int .i64 0)] (.t 9) (.t 9), none⟩,
      ⟨(some 5), .mv (.t 10), none⟩])
   (.seq (.reg [⟨(some 11), .mv (.t 5), none⟩,
       ⟨(some 12), .iaddr 1 (.t 11) (.c (.int .i64 0)), none⟩,
       ⟨none, .store 1 (.t 12) (.c (.int .i64 1)), none⟩])
    (.seq (.seq (.reg [⟨(some 6), .mv (.c (.int .i64 1)), none⟩])
      (.block 0 (.loop (.seq (.seq (.reg [⟨(some 13), .mv (.t 6), none⟩,
             ⟨(some 14), .mv (.t 0), none⟩,
             ⟨(some 15), .bin .leq (.t 13) (.t 14), none⟩])
          (.cond (.t 15) (.skip) (.exit 0)))
         (.seq (.block 1 (.seq (.reg [⟨(some 18), .mv (.t 6), none⟩,
               ⟨(some 7), .mv (.t 18), none⟩])
            (.block 2 (.loop (.seq (.seq (.reg [⟨(some 19), .mv (.t 7), none⟩,
                   ⟨(some 20), .bin .gtr (.t 19) (.c (.int .i64 0)), none⟩])
                (.cond (.t 20) (.skip) (.exit 2)))
               (.seq (.block 3 (.regE [⟨(some 23), .mv (.t 5), none⟩,
                    ⟨(some 24), .mv (.t 7), none⟩,
                    ⟨(some 25), .iaddr 1 (.t 23) (.t 24), none⟩,
                    ⟨(some 26), .load none (.t 25), none⟩,
                    ⟨(some 27), .mv (.t 5), none⟩,
                    ⟨(some 28), .mv (.t 7), none⟩,
                    ⟨(some 29), .bin .sub (.t 28) (.c (.int .i64 1)), none⟩,
                    ⟨(some 30), .iaddr 1 (.t 27) (.t 29), none⟩,
                    ⟨(some 31), .load none (.t 30), none⟩,
                    ⟨(some 32), .bin .add (.t 26) (.t 31), none⟩,
                    ⟨(some 33), .iaddr 1 (.t 23) (.t 24), none⟩,
                    ⟨none, .store 1 (.t 33) (.t 32), none⟩]))
                (.reg [⟨(some 21), .mv (.t 7), none⟩,
                   ⟨(some 22), .bin .sub (.t 21) (.c (.int .i64 1)), none⟩,
                   ⟨(some 7), .mv (.t 22), none⟩])))))))
          (.reg [⟨(some 16), .mv (.t 6), none⟩,
             ⟨(some 17), .bin .add (.t 16) (.c (.int .i64 1)), none⟩,
             ⟨(some 6), .mv (.t 17), none⟩]))))))
     (.seq (.reg [⟨(some 34), .mv (.t 5), none⟩,
         ⟨(some 35), .mv (.t 1), none⟩,
         ⟨(some 36), .iaddr 1 (.t 34) (.t 35), none⟩,
         ⟨(some 37), .load none (.t 36), none⟩,
         ⟨(some 4), .mv (.t 37), none⟩])
      (.ret)))))
theorem s51_ok : lookF Try.prog 51 = some (s51, 38, [.tmp 4]) := by kernel_rfl
theorem refChosen_ok (n k : Nat) (hn : n ≤ 60) (hk : k ≤ n + 1) : Fn P 51 [intA n, intA k] (intA (bin n k : Nat)) := by
  have e0 : ((n : Int) + 2).toNat = n + 2 := by omega
  (refine fn_look s51_ok (by simp) (by intro k; simp only [go_sem, Nat.reduceEqDiff, ↓reduceIte, reduceCtorEq, Nat.reduceAdd, Nat.reduceMul, Int.reduceToNat, List.reduceReplicate, Nat.reduceLeDiff, Nat.reduceLT, Int.reduceLT, Int.reduceLE, Int.reduceEq]) fun S hS => cwp_sound _ _ _ _ ?_; simp (disch := omega) only [s51, go_sem, Nat.reduceEqDiff, ↓reduceIte, reduceCtorEq, Nat.reduceAdd, Nat.reduceMul, Int.reduceToNat, List.reduceReplicate, Nat.reduceLeDiff, Nat.reduceLT, Int.reduceLT, Int.reduceLE, Int.reduceEq])
  repeat' (first | (with_reducible refine in_seq ?_) | (with_reducible refine in_reg ?_) | (with_reducible refine in_block ?_) | (with_reducible refine in_cond ?_) | (with_reducible refine in_ret ?_) | (with_reducible refine in_skip ?_) | (simp (disch := omega) only [go_sem, Nat.reduceEqDiff, ↓reduceIte, reduceCtorEq, Nat.reduceAdd, Nat.reduceMul, Int.reduceToNat, List.reduceReplicate, Nat.reduceLeDiff, Nat.reduceLT, Int.reduceLT, Int.reduceLE, Int.reduceEq, e0]) | (with_reducible refine giv_intro fun _h => ?_) | (with_reducible refine alt_intro ?_ (fun _h => ?_)) | ((first | with_reducible refine br_dec (fun _h => ?_) (fun _h => ?_) | with_reducible refine br_ndec (fun _h => ?_) (fun _h => ?_)) <;> (first | (exfalso; omega) | simp only [decide_eq_false _h] | simp only [decide_eq_true _h] | skip)) | ((first | with_reducible refine br_not (fun _h => ?_) (fun _h => ?_) | with_reducible refine br_var (fun _h => ?_) (fun _h => ?_)) <;> (try simp only [_h])) | fail)
  (refine loopC hS [0, 1, 5] (by simp only [go_sem, Nat.reduceEqDiff, ↓reduceIte, reduceCtorEq, Nat.reduceAdd, Nat.reduceMul, Int.reduceToNat, List.reduceReplicate, Nat.reduceLeDiff, Nat.reduceLT, Int.reduceLT, Int.reduceLE, Int.reduceEq]; try rfl) (fun (j : Nat) => [(6, intA ((j : Int) + 1))]) (fun (j : Nat) => [rowO 3 (pas n j)]) (fun (j : Nat) => j ≤ n) (fun (j : Nat) => n - j) (0) ?h03 ?hn3 ?rd3; case hn3 => (intro s; first | rfl | (rcases s with ⟨_, _⟩; rfl) | (rcases s with ⟨_, _, _⟩; rfl) | (rcases s with ⟨_, _, _, _⟩; rfl) | (rcases s with ⟨_, _, _, _, _⟩; rfl)))
  · simp (disch := omega) only [go_sem, Nat.reduceEqDiff, ↓reduceIte, reduceCtorEq, Nat.reduceAdd, Nat.reduceMul, Int.reduceToNat, List.reduceReplicate, Nat.reduceLeDiff, Nat.reduceLT, Int.reduceLT, Int.reduceLE, Int.reduceEq]
    refine ⟨Nat.zero_le _, by omega, ?_⟩
    rw [← pas_start n, cellsL_cons]; rfl
  · rintro j hj
    replace hj : j ≤ n := hj
    have hl : (pas n j).length = n + 2 := by simp [pas]
    repeat' (first | (with_reducible refine in_seq ?_) | (with_reducible refine in_reg ?_) | (with_reducible refine in_block ?_) | (with_reducible refine in_cond ?_) | (with_reducible refine in_ret ?_) | (with_reducible refine in_skip ?_) | (simp (disch := omega) only [go_sem, Nat.reduceEqDiff, ↓reduceIte, reduceCtorEq, Nat.reduceAdd, Nat.reduceMul, Int.reduceToNat, List.reduceReplicate, Nat.reduceLeDiff, Nat.reduceLT, Int.reduceLT, Int.reduceLE, Int.reduceEq]) | (with_reducible refine giv_intro fun _h => ?_) | (with_reducible refine alt_intro ?_ (fun _h => ?_)) | ((first | with_reducible refine br_dec (fun _h => ?_) (fun _h => ?_) | with_reducible refine br_ndec (fun _h => ?_) (fun _h => ?_)) <;> (first | (exfalso; omega) | simp only [decide_eq_false _h] | simp only [decide_eq_true _h] | skip)) | ((first | with_reducible refine br_not (fun _h => ?_) (fun _h => ?_) | with_reducible refine br_var (fun _h => ?_) (fun _h => ?_)) <;> (try simp only [_h])) | fail)
    · (refine loopC hS [0, 1, 5, 6] (by simp only [go_sem, Nat.reduceEqDiff, ↓reduceIte, reduceCtorEq, Nat.reduceAdd, Nat.reduceMul, Int.reduceToNat, List.reduceReplicate, Nat.reduceLeDiff, Nat.reduceLT, Int.reduceLT, Int.reduceLE, Int.reduceEq]; try rfl) (fun (i : Nat) => [(7, intA i)]) (fun (i : Nat) => [rowO 3 (pasM n j i)]) (fun (i : Nat) => i ≤ j + 1) (fun (i : Nat) => i) (j + 1) ?h04 ?hn4 ?rd4; case hn4 => (intro s; first | rfl | (rcases s with ⟨_, _⟩; rfl) | (rcases s with ⟨_, _, _⟩; rfl) | (rcases s with ⟨_, _, _, _⟩; rfl) | (rcases s with ⟨_, _, _, _, _⟩; rfl)))
      · simp (disch := omega) only [go_sem, Nat.reduceEqDiff, ↓reduceIte, reduceCtorEq, Nat.reduceAdd, Nat.reduceMul, Int.reduceToNat, List.reduceReplicate, Nat.reduceLeDiff, Nat.reduceLT, Int.reduceLT, Int.reduceLE, Int.reduceEq]
        exact ⟨by omega, by rw [pasM_start]⟩
      · rintro i hi
        replace hi : i ≤ j + 1 := hi
        have hl2 : (pasM n j i).length = n + 2 := by simp [pasM]
        have hb := Nat.le_trans (bin_le (j + 1) i) (Nat.pow_le_pow_right (show 0 < 2 by omega) (show j + 1 ≤ 61 by omega))
        repeat' (first | (with_reducible refine in_seq ?_) | (with_reducible refine in_reg ?_) | (with_reducible refine in_block ?_) | (with_reducible refine in_cond ?_) | (with_reducible refine in_ret ?_) | (with_reducible refine in_skip ?_) | (simp (disch := omega) only [go_sem, Nat.reduceEqDiff, ↓reduceIte, reduceCtorEq, Nat.reduceAdd, Nat.reduceMul, Int.reduceToNat, List.reduceReplicate, Nat.reduceLeDiff, Nat.reduceLT, Int.reduceLT, Int.reduceLE, Int.reduceEq]) | (with_reducible refine giv_intro fun _h => ?_) | (with_reducible refine alt_intro ?_ (fun _h => ?_)) | ((first | with_reducible refine br_dec (fun _h => ?_) (fun _h => ?_) | with_reducible refine br_ndec (fun _h => ?_) (fun _h => ?_)) <;> (first | (exfalso; omega) | simp only [decide_eq_false _h] | simp only [decide_eq_true _h] | skip)) | ((first | with_reducible refine br_not (fun _h => ?_) (fun _h => ?_) | with_reducible refine br_var (fun _h => ?_) (fun _h => ?_)) <;> (try simp only [_h])) | fail)
        · have hi0 : 0 < i := by omega
          refine ⟨i - 1, ⟨by omega, by omega⟩, by omega, ?_⟩
          have e1 : ((i : Int) - 1).toNat = i - 1 := by omega
          have e2 : nth (pasM n j i) i + nth (pasM n j i) ((i : Int) - 1).toNat = ((bin (j + 1) i : Nat) : Int) := by
            rw [e1, pasM, nth_map _ _ _ (by omega), nth_map _ _ _ (by omega), if_neg (by omega), if_neg (by omega)]
            obtain ⟨m, rfl⟩ : ∃ m, i = m + 1 := ⟨i - 1, by omega⟩
            rw [show bin (j + 1) (m + 1) = bin j m + bin j (m + 1) from rfl, Nat.add_sub_cancel, Int.natCast_add, Int.add_comm]
          rw [e2, wrap_nat (by omega), ← pasM_set n j i hi0 (by omega), List.set_eq_take_append_cons_drop, if_pos (by omega), List.append_assoc]
          rfl
        · have : i = 0 := by omega
          subst this
          exact ⟨j + 1, ⟨by omega, by omega⟩, by omega, by rw [pasM_end]⟩
    · have : j = n := by omega
      subst this
      rw [pas, nth_map _ _ _ (by omega)]
end Go.Proofs.Ytedbjmonfbpefaa.Ev

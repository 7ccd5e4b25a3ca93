/- The way from one node to another one; the law DependPaths. -/
import Derived.Test.YtkedbkdbnmmkhaaFnKi
set_option linter.unusedVariables false
set_option linter.unusedSimpArgs false
namespace Go.Proofs.Ytkedbkdbnmmkhaa.Ev
open Go Go.Proofs

/-! ### lists of numbers put together -/
/-- slices.Grow[[]int,int]: 2 parameters, 0 captured; NO [region 2 slices.go:424 panic] -/
def s84 : SC := .seq (.reg [⟨(some 4), .mv (.c (.slice none 0 0)), none⟩])
  (.seq (.seq (.reg [⟨(some 5), .mv (.t 1), none⟩,
       ⟨(some 6), .bin .lss (.t 5) (.c (.int .i64 0)), none⟩])
    (.cond (.t 6) (.reg [⟨(some 7), .mkif 9 (.c (.string ⟨#[99, 97, 110, 110, 111, 116, 32, 98, 101, 32, 110, 101, 103, 97, 116, 105, 118, 101]⟩)), none⟩,
        ⟨none, .no, none⟩]) (.skip)))
   (.seq (.seq (.reg [⟨(some 8), .mv (.t 1), none⟩,
        ⟨(some 9), .mv (.t 0), none⟩,
        ⟨(some 10), .capL (.t 9), none⟩,
        ⟨(some 11), .mv (.t 0), none⟩,
        ⟨(some 12), .lenL (.t 11), none⟩,
        ⟨(some 13), .bin .sub (.t 10) (.t 12), none⟩,
        ⟨(some 14), .bin .sub (.t 8) (.t 13), none⟩,
        ⟨(some 1), .mv (.t 14), none⟩])
     (.seq (.reg [⟨(some 15), .mv (.t 1), none⟩,
         ⟨(some 16), .bin .gtr (.t 15) (.c (.int .i64 0)), none⟩])
      (.cond (.t 16) (.reg [⟨(some 17), .mv (.t 0), none⟩,
          ⟨(some 18), .mv (.t 0), none⟩,
          ⟨(some 19), .capL (.t 18), none⟩,
          ⟨(some 20), .sl 1 (.t 17) none (some (.t 19)), none⟩,
          ⟨(some 21), .mv (.t 1), none⟩,
          ⟨(some 22), .appZ 3 1 8 [(.int .i64 0)] (.t 20) (.t 21), none⟩,
          ⟨(some 23), .mv (.t 0), none⟩,
          ⟨(some 24), .lenL (.t 23), none⟩,
          ⟨(some 25), .sl 1 (.t 22) none (some (.t 24)), none⟩,
          ⟨(some 0), .mv (.t 25), none⟩]) (.skip))))
    (.seq (.reg [⟨(some 26), .mv (.t 0), none⟩,
        ⟨(some 4), .mv (.t 26), none⟩])
     (.ret))))
theorem s84_ok : lookF Try.prog 84 = some (s84, 27, [.tmp 4]) := by kernel_rfl
theorem growI_ok (n : Nat) (h : 0 < n) (hn : n ≤ 8796093022208) : FnS P 84 [nilA, intA n] (fun S L r => ∃ L1, L = [some (Ob.row 3 1 (cellsL (List.replicate n (0 : Int))))] ∧ r = AV.ref (S.nm 0) n 0 0 ∧ L1 = L) := by
  have e : ((n : Int) - (0 - 0)).toNat = n := by omega
  (refine fnS_look s84_ok (by simp) fun S hS => cwp_sound _ _ _ _ ?_; simp (disch := omega) only [s84, go_sem, Nat.reduceEqDiff, ↓reduceIte, reduceCtorEq, Nat.reduceAdd, Nat.reduceMul, Int.reduceToNat, List.reduceReplicate, Nat.reduceLeDiff, Nat.reduceLT, Int.reduceLT, Int.reduceLE, Int.reduceEq])
  repeat' (first | (with_reducible refine in_seq ?_) | (with_reducible refine in_reg ?_) | (with_reducible refine in_block ?_) | (with_reducible refine in_cond ?_) | (with_reducible refine in_ret ?_) | (with_reducible refine in_skip ?_) | (simp (disch := omega) only [go_sem, Nat.reduceEqDiff, ↓reduceIte, reduceCtorEq, Nat.reduceAdd, Nat.reduceMul, Int.reduceToNat, List.reduceReplicate, Nat.reduceLeDiff, Nat.reduceLT, Int.reduceLT, Int.reduceLE, Int.reduceEq, e]) | (with_reducible refine giv_intro fun _h => ?_) | (with_reducible refine alt_intro ?_ (fun _h => ?_)) | ((first | with_reducible refine br_dec (fun _h => ?_) (fun _h => ?_) | with_reducible refine br_ndec (fun _h => ?_) (fun _h => ?_)) <;> (first | (exfalso; omega) | simp only [decide_eq_false _h] | simp only [decide_eq_true _h] | skip)) | ((first | with_reducible refine br_not (fun _h => ?_) (fun _h => ?_) | with_reducible refine br_var (fun _h => ?_) (fun _h => ?_)) <;> (try simp only [_h])) | fail)
  exact ⟨_, rfl⟩
theorem growI_nil : FnS P 84 [nilA, intA 0] (fun S L r => L = [] ∧ r = nilA) := by
  (refine fnS_look s84_ok (by simp) fun S hS => cwp_sound _ _ _ _ ?_; simp (disch := omega) only [s84, go_sem, Nat.reduceEqDiff, ↓reduceIte, reduceCtorEq, Nat.reduceAdd, Nat.reduceMul, Int.reduceToNat, List.reduceReplicate, Nat.reduceLeDiff, Nat.reduceLT, Int.reduceLT, Int.reduceLE, Int.reduceEq])
  repeat' (first | (with_reducible refine in_seq ?_) | (with_reducible refine in_reg ?_) | (with_reducible refine in_block ?_) | (with_reducible refine in_cond ?_) | (with_reducible refine in_ret ?_) | (with_reducible refine in_skip ?_) | (simp (disch := omega) only [go_sem, Nat.reduceEqDiff, ↓reduceIte, reduceCtorEq, Nat.reduceAdd, Nat.reduceMul, Int.reduceToNat, List.reduceReplicate, Nat.reduceLeDiff, Nat.reduceLT, Int.reduceLT, Int.reduceLE, Int.reduceEq]) | (with_reducible refine giv_intro fun _h => ?_) | (with_reducible refine alt_intro ?_ (fun _h => ?_)) | ((first | with_reducible refine br_dec (fun _h => ?_) (fun _h => ?_) | with_reducible refine br_ndec (fun _h => ?_) (fun _h => ?_)) <;> (first | (exfalso; omega) | simp only [decide_eq_false _h] | simp only [decide_eq_true _h] | skip)) | ((first | with_reducible refine br_not (fun _h => ?_) (fun _h => ?_) | with_reducible refine br_var (fun _h => ?_) (fun _h => ?_)) <;> (try simp only [_h])) | fail)
theorem flat_step {α : Type} {k : Nat} [Enc α k] {ls : List (List α)} {i : Nat} (h : i < ls.length) : (ls.take (i + 1)).flatten = (ls.take i).flatten ++ nth ls i := by
  rw [List.take_add_one, nth_get? h]; simp
theorem flat_le {α : Type} (ls : List (List α)) (i : Nat) : ((ls.take i).flatten).length ≤ ls.flatten.length := by
  have : ls.flatten = (ls.take i).flatten ++ (ls.drop i).flatten := by rw [← List.flatten_append, List.take_append_drop]
  rw [this]; simp
/-- slices.Concat[[]int,int]: 1 parameters, 0 captured; NO [region 7 slices.go:496 panic] -/
def s60 : SC := .seq (.reg [⟨(some 2), .mv (.c (.slice none 0 0)), none⟩])
  (.seq (.reg [⟨(some 3), .mv (.c (.int .i64 0)), none⟩])
   (.seq (.seq (.reg [⟨(some 9), .mv (.t 0), none⟩,
        ⟨(some 10), .lenL (.t 9), none⟩,
        ⟨(some 11), .mv (.c (.int .i64 0)), none⟩])
     (.block 0 (.loop (.seq (.reg [⟨(some 12), .bin .lss (.t 11) (.t 10), none⟩])
        (.seq (.cond (.t 12) (.skip) (.exit 0))
         (.seq (.block 1 (.seq (.reg [⟨(some 13), .iaddr 1 (.t 9) (.t 11), none⟩,
               ⟨(some 14), .load none (.t 13), none⟩,
               ⟨(some 5), .mv (.t 14), none⟩])
            (.seq (.reg [⟨(some 15), .mv (.t 3), none⟩,
                ⟨(some 16), .mv (.t 5), none⟩,
                ⟨(some 17), .lenL (.t 16), none⟩,
                ⟨(some 18), .bin .add (.t 15) (.t 17), none⟩,
                ⟨(some 3), .mv (.t 18), none⟩])
             (.seq (.reg [⟨(some 19), .mv (.t 3), none⟩,
                 ⟨(some 20), .bin .lss (.t 19) (.c (.int .i64 0)), none⟩])
              (.cond (.t 20) (.reg [⟨(some 21), .mkif 9 (.c (.string ⟨#[108, 101, 110, 32, 111, 117, 116, 32, 111, 102, 32, 114, 97, 110, 103, 101]⟩)), none⟩,
                  ⟨none, .no, none⟩]) (.skip))))))
          (.reg [⟨(some 22), .bin .add (.t 11) (.c (.int .i64 1)), none⟩,
             ⟨(some 11), .mv (.t 22), none⟩])))))))
    (.seq (.reg [⟨(some 23), .mv (.t 3), none⟩,
        ⟨(some 24), .call (.f 84) [(.c (.slice none 0 0)), (.t 23)], none⟩,
        ⟨(some 6), .mv (.t 24), none⟩])
     (.seq (.seq (.reg [⟨(some 25), .mv (.t 0), none⟩,
          ⟨(some 26), .lenL (.t 25), none⟩,
          ⟨(some 27), .mv (.c (.int .i64 0)), none⟩])
       (.block 2 (.loop (.seq (.reg [⟨(some 28), .bin .lss (.t 27) (.t 26), none⟩])
          (.seq (.cond (.t 28) (.skip) (.exit 2))
           (.seq (.block 3 (.seq (.reg [⟨(some 29), .iaddr 1 (.t 25) (.t 27), none⟩,
                 ⟨(some 30), .load none (.t 29), none⟩,
                 ⟨(some 8), .mv (.t 30), none⟩])
              (.reg [⟨(some 31), .mv (.t 6), none⟩,
                 ⟨(some 32), .mv (.t 8), none⟩,
                 ⟨(some 33), .app 3 1 8 (.t 31) (.t 32), none⟩,
                 ⟨(some 6), .mv (.t 33), none⟩])))
            (.reg [⟨(some 34), .bin .add (.t 27) (.c (.int .i64 1)), none⟩,
               ⟨(some 27), .mv (.t 34), none⟩])))))))
      (.seq (.reg [⟨(some 35), .mv (.t 6), none⟩,
          ⟨(some 2), .mv (.t 35), none⟩])
       (.ret))))))
theorem s60_ok : lookF Try.prog 60 = some (s60, 36, [.tmp 2]) := by kernel_rfl
theorem concatI_ok (ls : List (List Int)) (hl : ls.length ≤ 8796093022208) (hn : ls.flatten.length ≤ 8796093022208) : Fn P 60 [sl ls] (sl ls.flatten) := by
  (refine fn_look s60_ok (by simp) (by intro k; simp only [go_sem, Nat.reduceEqDiff, ↓reduceIte, reduceCtorEq, Nat.reduceAdd, Nat.reduceMul, Int.reduceToNat, List.reduceReplicate, Nat.reduceLeDiff, Nat.reduceLT, Int.reduceLT, Int.reduceLE, Int.reduceEq]) fun S hS => cwp_sound _ _ _ _ ?_; simp (disch := omega) only [s60, go_sem, Nat.reduceEqDiff, ↓reduceIte, reduceCtorEq, Nat.reduceAdd, Nat.reduceMul, Int.reduceToNat, List.reduceReplicate, Nat.reduceLeDiff, Nat.reduceLT, Int.reduceLT, Int.reduceLE, Int.reduceEq])
  repeat' (first | (with_reducible refine in_seq ?_) | (with_reducible refine in_reg ?_) | (with_reducible refine in_block ?_) | (with_reducible refine in_cond ?_) | (with_reducible refine in_ret ?_) | (with_reducible refine in_skip ?_) | (simp (disch := omega) only [go_sem, Nat.reduceEqDiff, ↓reduceIte, reduceCtorEq, Nat.reduceAdd, Nat.reduceMul, Int.reduceToNat, List.reduceReplicate, Nat.reduceLeDiff, Nat.reduceLT, Int.reduceLT, Int.reduceLE, Int.reduceEq]) | (with_reducible refine giv_intro fun _h => ?_) | (with_reducible refine alt_intro ?_ (fun _h => ?_)) | ((first | with_reducible refine br_dec (fun _h => ?_) (fun _h => ?_) | with_reducible refine br_ndec (fun _h => ?_) (fun _h => ?_)) <;> (first | (exfalso; omega) | simp only [decide_eq_false _h] | simp only [decide_eq_true _h] | skip)) | ((first | with_reducible refine br_not (fun _h => ?_) (fun _h => ?_) | with_reducible refine br_var (fun _h => ?_) (fun _h => ?_)) <;> (try simp only [_h])) | fail)
  (refine loopC hS [0, 9, 10] (by simp only [go_sem, Nat.reduceEqDiff, ↓reduceIte, reduceCtorEq, Nat.reduceAdd, Nat.reduceMul, Int.reduceToNat, List.reduceReplicate, Nat.reduceLeDiff, Nat.reduceLT, Int.reduceLT, Int.reduceLE, Int.reduceEq]; try rfl) (fun (i : Nat) => [(3, intA (((ls.take i).flatten).length : Nat)), (11, intA i)]) (fun (i : Nat) => []) (fun (i : Nat) => i ≤ ls.length) (fun (i : Nat) => ls.length - i) (0) ?h01 ?hn1 ?rd1; case hn1 => (intro s; first | rfl | (rcases s with ⟨_, _⟩; rfl) | (rcases s with ⟨_, _, _⟩; rfl) | (rcases s with ⟨_, _, _, _⟩; rfl) | (rcases s with ⟨_, _, _, _, _⟩; rfl)))
  · simp (disch := omega) only [go_sem, Nat.reduceEqDiff, ↓reduceIte, reduceCtorEq, Nat.reduceAdd, Nat.reduceMul, Int.reduceToNat, List.reduceReplicate, Nat.reduceLeDiff, Nat.reduceLT, Int.reduceLT, Int.reduceLE, Int.reduceEq]; simp
  · rintro i hi
    replace hi : i ≤ ls.length := hi
    have b1 := flat_le ls i
    have b2 := flat_le ls (i + 1)
    by_cases hil : i < ls.length
    · rw [flat_step hil] at b2
      simp only [List.length_append] at b2
      repeat' (first | (with_reducible refine in_seq ?_) | (with_reducible refine in_reg ?_) | (with_reducible refine in_block ?_) | (with_reducible refine in_cond ?_) | (with_reducible refine in_ret ?_) | (with_reducible refine in_skip ?_) | (simp (disch := omega) only [go_sem, Nat.reduceEqDiff, ↓reduceIte, reduceCtorEq, Nat.reduceAdd, Nat.reduceMul, Int.reduceToNat, List.reduceReplicate, Nat.reduceLeDiff, Nat.reduceLT, Int.reduceLT, Int.reduceLE, Int.reduceEq]) | (with_reducible refine giv_intro fun _h => ?_) | (with_reducible refine alt_intro ?_ (fun _h => ?_)) | ((first | with_reducible refine br_dec (fun _h => ?_) (fun _h => ?_) | with_reducible refine br_ndec (fun _h => ?_) (fun _h => ?_)) <;> (first | (exfalso; omega) | simp only [decide_eq_false _h] | simp only [decide_eq_true _h] | skip)) | ((first | with_reducible refine br_not (fun _h => ?_) (fun _h => ?_) | with_reducible refine br_var (fun _h => ?_) (fun _h => ?_)) <;> (try simp only [_h])) | fail)
      refine ⟨i + 1, ⟨by omega, by omega⟩, ?_⟩
      rw [flat_step hil]; simp
    · have hl2 : ls.take i = ls := List.take_of_length_le (by omega)
      rw [hl2]
      rcases Nat.eq_zero_or_pos ls.flatten.length with h0 | h0
      · rw [h0]
        have hz : ∀ j, j < ls.length → (nth ls j).length = 0 := fun j hj => by
          have := flat_le ls (j + 1)
          rw [flat_step hj, List.length_append] at this; omega
        repeat' (first | (with_reducible refine in_seq ?_) | (with_reducible refine in_reg ?_) | (with_reducible refine in_block ?_) | (with_reducible refine in_cond ?_) | (with_reducible refine in_ret ?_) | (with_reducible refine in_skip ?_) | (simp (disch := omega) only [go_sem, Nat.reduceEqDiff, ↓reduceIte, reduceCtorEq, Nat.reduceAdd, Nat.reduceMul, Int.reduceToNat, List.reduceReplicate, Nat.reduceLeDiff, Nat.reduceLT, Int.reduceLT, Int.reduceLE, Int.reduceEq]) | (with_reducible refine giv_intro fun _h => ?_) | (with_reducible refine alt_intro ?_ (fun _h => ?_)) | ((first | with_reducible refine br_dec (fun _h => ?_) (fun _h => ?_) | with_reducible refine br_ndec (fun _h => ?_) (fun _h => ?_)) <;> (first | (exfalso; omega) | simp only [decide_eq_false _h] | simp only [decide_eq_true _h] | skip)) | ((first | with_reducible refine br_not (fun _h => ?_) (fun _h => ?_) | with_reducible refine br_var (fun _h => ?_) (fun _h => ?_)) <;> (try simp only [_h])) | fail)
        refine callN growI_nil rfl ?_
        rintro L' r ⟨rfl, rfl⟩
        repeat' (first | (with_reducible refine in_seq ?_) | (with_reducible refine in_reg ?_) | (with_reducible refine in_block ?_) | (with_reducible refine in_cond ?_) | (with_reducible refine in_ret ?_) | (with_reducible refine in_skip ?_) | (simp (disch := omega) only [go_sem, Nat.reduceEqDiff, ↓reduceIte, reduceCtorEq, Nat.reduceAdd, Nat.reduceMul, Int.reduceToNat, List.reduceReplicate, Nat.reduceLeDiff, Nat.reduceLT, Int.reduceLT, Int.reduceLE, Int.reduceEq]) | (with_reducible refine giv_intro fun _h => ?_) | (with_reducible refine alt_intro ?_ (fun _h => ?_)) | ((first | with_reducible refine br_dec (fun _h => ?_) (fun _h => ?_) | with_reducible refine br_ndec (fun _h => ?_) (fun _h => ?_)) <;> (first | (exfalso; omega) | simp only [decide_eq_false _h] | simp only [decide_eq_true _h] | skip)) | ((first | with_reducible refine br_not (fun _h => ?_) (fun _h => ?_) | with_reducible refine br_var (fun _h => ?_) (fun _h => ?_)) <;> (try simp only [_h])) | fail)
        (refine loopC hS [25, 26] (by simp only [go_sem, Nat.reduceEqDiff, ↓reduceIte, reduceCtorEq, Nat.reduceAdd, Nat.reduceMul, Int.reduceToNat, List.reduceReplicate, Nat.reduceLeDiff, Nat.reduceLT, Int.reduceLT, Int.reduceLE, Int.reduceEq]; try rfl) (fun (i : Nat) => [(6, nilA), (27, intA i)]) (fun (i : Nat) => []) (fun (i : Nat) => i ≤ ls.length) (fun (i : Nat) => ls.length - i) (0) ?h02 ?hn2 ?rd2; case hn2 => (intro s; first | rfl | (rcases s with ⟨_, _⟩; rfl) | (rcases s with ⟨_, _, _⟩; rfl) | (rcases s with ⟨_, _, _, _⟩; rfl) | (rcases s with ⟨_, _, _, _, _⟩; rfl)))
        · simp (disch := omega) only [go_sem, Nat.reduceEqDiff, ↓reduceIte, reduceCtorEq, Nat.reduceAdd, Nat.reduceMul, Int.reduceToNat, List.reduceReplicate, Nat.reduceLeDiff, Nat.reduceLT, Int.reduceLT, Int.reduceLE, Int.reduceEq]; simp
        · rintro i hi
          replace hi : i ≤ ls.length := hi
          by_cases hil : i < ls.length
          · have := hz i hil
            repeat' (first | (with_reducible refine in_seq ?_) | (with_reducible refine in_reg ?_) | (with_reducible refine in_block ?_) | (with_reducible refine in_cond ?_) | (with_reducible refine in_ret ?_) | (with_reducible refine in_skip ?_) | (simp (disch := omega) only [go_sem, Nat.reduceEqDiff, ↓reduceIte, reduceCtorEq, Nat.reduceAdd, Nat.reduceMul, Int.reduceToNat, List.reduceReplicate, Nat.reduceLeDiff, Nat.reduceLT, Int.reduceLT, Int.reduceLE, Int.reduceEq]) | (with_reducible refine giv_intro fun _h => ?_) | (with_reducible refine alt_intro ?_ (fun _h => ?_)) | ((first | with_reducible refine br_dec (fun _h => ?_) (fun _h => ?_) | with_reducible refine br_ndec (fun _h => ?_) (fun _h => ?_)) <;> (first | (exfalso; omega) | simp only [decide_eq_false _h] | simp only [decide_eq_true _h] | skip)) | ((first | with_reducible refine br_not (fun _h => ?_) (fun _h => ?_) | with_reducible refine br_var (fun _h => ?_) (fun _h => ?_)) <;> (try simp only [_h])) | fail)
            exact ⟨i + 1, ⟨by omega, by omega⟩, by omega⟩
          · repeat' (first | (with_reducible refine in_seq ?_) | (with_reducible refine in_reg ?_) | (with_reducible refine in_block ?_) | (with_reducible refine in_cond ?_) | (with_reducible refine in_ret ?_) | (with_reducible refine in_skip ?_) | (simp (disch := omega) only [go_sem, Nat.reduceEqDiff, ↓reduceIte, reduceCtorEq, Nat.reduceAdd, Nat.reduceMul, Int.reduceToNat, List.reduceReplicate, Nat.reduceLeDiff, Nat.reduceLT, Int.reduceLT, Int.reduceLE, Int.reduceEq]) | (with_reducible refine giv_intro fun _h => ?_) | (with_reducible refine alt_intro ?_ (fun _h => ?_)) | ((first | with_reducible refine br_dec (fun _h => ?_) (fun _h => ?_) | with_reducible refine br_ndec (fun _h => ?_) (fun _h => ?_)) <;> (first | (exfalso; omega) | simp only [decide_eq_false _h] | simp only [decide_eq_true _h] | skip)) | ((first | with_reducible refine br_not (fun _h => ?_) (fun _h => ?_) | with_reducible refine br_var (fun _h => ?_) (fun _h => ?_)) <;> (try simp only [_h])) | fail)
            rw [List.eq_nil_of_length_eq_zero h0]; rfl
      · repeat' (first | (with_reducible refine in_seq ?_) | (with_reducible refine in_reg ?_) | (with_reducible refine in_block ?_) | (with_reducible refine in_cond ?_) | (with_reducible refine in_ret ?_) | (with_reducible refine in_skip ?_) | (simp (disch := omega) only [go_sem, Nat.reduceEqDiff, ↓reduceIte, reduceCtorEq, Nat.reduceAdd, Nat.reduceMul, Int.reduceToNat, List.reduceReplicate, Nat.reduceLeDiff, Nat.reduceLT, Int.reduceLT, Int.reduceLE, Int.reduceEq]) | (with_reducible refine giv_intro fun _h => ?_) | (with_reducible refine alt_intro ?_ (fun _h => ?_)) | ((first | with_reducible refine br_dec (fun _h => ?_) (fun _h => ?_) | with_reducible refine br_ndec (fun _h => ?_) (fun _h => ?_)) <;> (first | (exfalso; omega) | simp only [decide_eq_false _h] | simp only [decide_eq_true _h] | skip)) | ((first | with_reducible refine br_not (fun _h => ?_) (fun _h => ?_) | with_reducible refine br_var (fun _h => ?_) (fun _h => ?_)) <;> (try simp only [_h])) | fail)
        refine callN (growI_ok ls.flatten.length h0 hn) rfl ?_
        rintro L' r ⟨L1, rfl, rfl, _⟩
        simp only [nm_stk, List.nil_append, List.length_nil, Nat.zero_add]
        repeat' (first | (with_reducible refine in_seq ?_) | (with_reducible refine in_reg ?_) | (with_reducible refine in_block ?_) | (with_reducible refine in_cond ?_) | (with_reducible refine in_ret ?_) | (with_reducible refine in_skip ?_) | (simp (disch := omega) only [go_sem, Nat.reduceEqDiff, ↓reduceIte, reduceCtorEq, Nat.reduceAdd, Nat.reduceMul, Int.reduceToNat, List.reduceReplicate, Nat.reduceLeDiff, Nat.reduceLT, Int.reduceLT, Int.reduceLE, Int.reduceEq]) | (with_reducible refine giv_intro fun _h => ?_) | (with_reducible refine alt_intro ?_ (fun _h => ?_)) | ((first | with_reducible refine br_dec (fun _h => ?_) (fun _h => ?_) | with_reducible refine br_ndec (fun _h => ?_) (fun _h => ?_)) <;> (first | (exfalso; omega) | simp only [decide_eq_false _h] | simp only [decide_eq_true _h] | skip)) | ((first | with_reducible refine br_not (fun _h => ?_) (fun _h => ?_) | with_reducible refine br_var (fun _h => ?_) (fun _h => ?_)) <;> (try simp only [_h])) | fail)
        (refine loopC hS [25, 26] (by simp only [go_sem, Nat.reduceEqDiff, ↓reduceIte, reduceCtorEq, Nat.reduceAdd, Nat.reduceMul, Int.reduceToNat, List.reduceReplicate, Nat.reduceLeDiff, Nat.reduceLT, Int.reduceLT, Int.reduceLE, Int.reduceEq]; try rfl) (fun (⟨i, full⟩ : Nat × List Int) => [(6, .ref (S.nm 0) ls.flatten.length 0 ((ls.take i).flatten).length), (27, intA i)]) (fun (⟨i, full⟩ : Nat × List Int) => [rowO 3 full]) (fun (⟨i, full⟩ : Nat × List Int) => i ≤ ls.length ∧ full.length = ls.flatten.length ∧ full.take ((ls.take i).flatten).length = (ls.take i).flatten) (fun (⟨i, full⟩ : Nat × List Int) => ls.length - i) ((0, List.replicate ls.flatten.length 0)) ?h03 ?hn3 ?rd3; case hn3 => (intro s; first | rfl | (rcases s with ⟨_, _⟩; rfl) | (rcases s with ⟨_, _, _⟩; rfl) | (rcases s with ⟨_, _, _, _⟩; rfl) | (rcases s with ⟨_, _, _, _, _⟩; rfl)))
        · simp (disch := omega) only [go_sem, Nat.reduceEqDiff, ↓reduceIte, reduceCtorEq, Nat.reduceAdd, Nat.reduceMul, Int.reduceToNat, List.reduceReplicate, Nat.reduceLeDiff, Nat.reduceLT, Int.reduceLT, Int.reduceLE, Int.reduceEq]; simp
        · rintro ⟨i, full⟩ ⟨hi, hf, ht⟩
          replace hi : i ≤ ls.length := hi
          replace hf : full.length = ls.flatten.length := hf
          replace ht : full.take ((ls.take i).flatten).length = (ls.take i).flatten := ht
          by_cases hil : i < ls.length
          · have b3 := flat_le ls (i + 1)
            rw [flat_step hil, List.length_append] at b3
            repeat' (first | (with_reducible refine in_seq ?_) | (with_reducible refine in_reg ?_) | (with_reducible refine in_block ?_) | (with_reducible refine in_cond ?_) | (with_reducible refine in_ret ?_) | (with_reducible refine in_skip ?_) | (simp (disch := omega) only [go_sem, Nat.reduceEqDiff, ↓reduceIte, reduceCtorEq, Nat.reduceAdd, Nat.reduceMul, Int.reduceToNat, List.reduceReplicate, Nat.reduceLeDiff, Nat.reduceLT, Int.reduceLT, Int.reduceLE, Int.reduceEq, ax_room]) | (with_reducible refine giv_intro fun _h => ?_) | (with_reducible refine alt_intro ?_ (fun _h => ?_)) | ((first | with_reducible refine br_dec (fun _h => ?_) (fun _h => ?_) | with_reducible refine br_ndec (fun _h => ?_) (fun _h => ?_)) <;> (first | (exfalso; omega) | simp only [decide_eq_false _h] | simp only [decide_eq_true _h] | skip)) | ((first | with_reducible refine br_not (fun _h => ?_) (fun _h => ?_) | with_reducible refine br_var (fun _h => ?_) (fun _h => ?_)) <;> (try simp only [_h])) | fail)
            refine ⟨(i + 1, full.take ((ls.take i).flatten).length ++ nth ls i ++ full.drop (((ls.take i).flatten).length + (nth ls i).length)), ?_⟩
            dsimp only
            have e1 : (full.take ((ls.take i).flatten).length).length = ((ls.take i).flatten).length := by rw [ht]
            refine ⟨⟨by omega, by omega, ?_, ?_⟩, ⟨?_, by omega⟩, rfl⟩
            · simp only [List.length_append, List.length_drop, e1]; omega
            · rw [flat_step hil, ht, List.take_left' (by simp)]
            · rw [flat_step hil, List.length_append]
          · have hl3 : ls.take i = ls := List.take_of_length_le (by omega)
            rw [hl3] at ht
            have hf2 : full = ls.flatten := by rw [← ht, List.take_of_length_le (by omega)]
            subst hf2
            repeat' (first | (with_reducible refine in_seq ?_) | (with_reducible refine in_reg ?_) | (with_reducible refine in_block ?_) | (with_reducible refine in_cond ?_) | (with_reducible refine in_ret ?_) | (with_reducible refine in_skip ?_) | (simp (disch := omega) only [go_sem, Nat.reduceEqDiff, ↓reduceIte, reduceCtorEq, Nat.reduceAdd, Nat.reduceMul, Int.reduceToNat, List.reduceReplicate, Nat.reduceLeDiff, Nat.reduceLT, Int.reduceLT, Int.reduceLE, Int.reduceEq, hl3]) | (with_reducible refine giv_intro fun _h => ?_) | (with_reducible refine alt_intro ?_ (fun _h => ?_)) | ((first | with_reducible refine br_dec (fun _h => ?_) (fun _h => ?_) | with_reducible refine br_ndec (fun _h => ?_) (fun _h => ?_)) <;> (first | (exfalso; omega) | simp only [decide_eq_false _h] | simp only [decide_eq_true _h] | skip)) | ((first | with_reducible refine br_not (fun _h => ?_) (fun _h => ?_) | with_reducible refine br_var (fun _h => ?_) (fun _h => ?_)) <;> (try simp only [_h])) | fail)

/-! ### the way -/
/-- The nodes from x upwards ahead of the first one on which k hangs, and this one. -/
def upF (l : List Hung) (k : Int) : Nat → Int → List Int × Int
  | 0, x => ([], x)
  | n + 1, x => if x < 0 ∨ hgB l k x = true then ([], x) else (x :: (upF l k n (hd l x)).1, (upF l k n (hd l x)).2)
/-- The nodes from y upwards ahead of x. -/
def downF (l : List Hung) (x : Int) : Nat → Int → List Int
  | 0, _ => []
  | n + 1, y => if y = x then [] else y :: downF l x n (hd l y)
def wayU (l : List Hung) (i k : Int) : List Int × Int := upF l k (l.length + 1) i
def wayD (l : List Hung) (x k : Int) : List Int := downF l x (l.length + 1) k
def pathT (l : List Hung) (i k : Int) : List Int × Bool × Int := if valE l ≠ 0 then ([], false, valE l) else if outB l i = true ∨ outB l k = true then ([], false, 4) else if (wayU l i k).2 < 0 then ([], false, 0) else ((wayU l i k).1 ++ ((wayU l i k).2 :: (wayD l (wayU l i k).2 k).reverse), true, 0)
theorem upF_len (l : List Hung) (k : Int) : ∀ (n : Nat) (x : Int), (upF l k n x).1.length ≤ n
  | 0, x => by simp [upF]
  | n + 1, x => by
    have := upF_len l k n (hd l x)
    rw [upF]; split <;> simp; omega
theorem downF_len (l : List Hung) (x : Int) : ∀ (n : Nat) (y : Int), (downF l x n y).length ≤ n
  | 0, y => by simp [downF]
  | n + 1, y => by
    have := downF_len l x n (hd l y)
    rw [downF]; split <;> simp; omega
theorem upF_stop {l : List Hung} {k x : Int} (h : x < 0 ∨ hgB l k x = true) : ∀ n, upF l k n x = ([], x)
  | 0 => rfl
  | n + 1 => by rw [upF, if_pos h]
theorem downF_stop (l : List Hung) (x : Int) : ∀ n, downF l x n x = []
  | 0 => rfl
  | n + 1 => by rw [downF, if_pos rfl]
theorem ext_nth {α : Type} {q : Nat} [Enc α q] {a b : List α} (h : a.length = b.length) (hn : ∀ p, p < a.length → nth a p = nth b p) : a = b := by
  refine List.ext_getElem h fun p h1 h2 => ?_
  have := hn p h1
  rwa [nth_eq h1, nth_eq h2] at this
theorem nth_rev {l : List Int} {p : Nat} (h : p < l.length) : nth l.reverse p = nth l (l.length - 1 - p) := by
  rw [nth_eq (by simpa using h), nth_eq (by omega), List.getElem_reverse]
theorem r_zero (fr : Fr) : resAV fr [] = .tup [] := rfl
theorem put_fold {α : Type} {q : Nat} [Enc α q] (l : List α) (i : Nat) (x : α) : l.take i ++ [x] ++ l.drop (i + 1) = putAt l i x := by simp [putAt]
theorem nth_put2 {cur : List Int} {a b p : Nat} (ha : a < cur.length) (hb : b < cur.length) : nth (putAt (putAt cur a (nth cur b)) b (nth cur a)) p = if p = b then nth cur a else if p = a then nth cur b else nth cur p := by
  rw [nth_put (by rw [putAt_len ha]; exact hb), nth_put ha]
abbrev triP (t : List Int × Bool × Int) : AV := .tup [sl t.1, boolA t.2.1, intA t.2.2]
/-- slices.Reverse[[]int,int]: 1 parameters, 0 captured -/
def s59 : SC := .seq (.reg [⟨(some 4), .mv (.t 0), none⟩,
     ⟨(some 5), .lenL (.t 4), none⟩,
     ⟨(some 6), .bin .sub (.t 5) (.c (.int .i64 1)), none⟩,
     ⟨(some 2), .mv (.c (.int .i64 0)), none⟩,
     ⟨(some 3), .mv (.t 6), none⟩])
  (.block 0 (.loop (.seq (.seq (.reg [⟨(some 7), .mv (.t 2), none⟩,
         ⟨(some 8), .mv (.t 3), none⟩,
         ⟨(some 9), .bin .lss (.t 7) (.t 8), none⟩])
      (.cond (.t 9) (.skip) (.exit 0)))
     (.seq (.block 1 (.regE [⟨(some 14), .mv (.t 0), none⟩,
          ⟨(some 15), .mv (.t 2), none⟩,
          ⟨(some 16), .mv (.t 0), none⟩,
          ⟨(some 17), .mv (.t 3), none⟩,
          ⟨(some 18), .mv (.t 0), none⟩,
          ⟨(some 19), .mv (.t 3), none⟩,
          ⟨(some 20), .iaddr 1 (.t 18) (.t 19), none⟩,
          ⟨(some 21), .load none (.t 20), none⟩,
          ⟨(some 22), .mv (.t 0), none⟩,
          ⟨(some 23), .mv (.t 2), none⟩,
          ⟨(some 24), .iaddr 1 (.t 22) (.t 23), none⟩,
          ⟨(some 25), .load none (.t 24), none⟩,
          ⟨(some 26), .iaddr 1 (.t 14) (.t 15), none⟩,
          ⟨none, .store 1 (.t 26) (.t 21), none⟩,
          ⟨(some 27), .iaddr 1 (.t 16) (.t 17), none⟩,
          ⟨none, .store 1 (.t 27) (.t 25), none⟩]))
      (.reg [⟨(some 10), .mv (.t 2), none⟩,
         ⟨(some 11), .bin .add (.t 10) (.c (.int .i64 1)), none⟩,
         ⟨(some 12), .mv (.t 3), none⟩,
         ⟨(some 13), .bin .sub (.t 12) (.c (.int .i64 1)), none⟩,
         ⟨(some 2), .mv (.t 11), none⟩,
         ⟨(some 3), .mv (.t 13), none⟩])))))
theorem s59_ok : lookF Try.prog 59 = some (s59, 28, []) := by kernel_rfl
/-- ablaut/depend.Path: 3 parameters, 0 captured -/
def s31 : SC := .seq (.reg [⟨(some 6), .mv (.c (.slice none 0 0)), none⟩,
     ⟨(some 7), .mv (.c (.bool false)), none⟩,
     ⟨(some 8), .mv (.c (.int .i64 0)), none⟩])
  (.seq (.seq (.reg [⟨(some 12), .mv (.t 0), none⟩,
       ⟨(some 13), .mv (.t 1), none⟩,
       ⟨(some 14), .mv (.t 2), none⟩,
       ⟨(some 15), .buildSl 3 1 2 [(.int .i64 0)] [(0, 1, (.t 13)), (1, 1, (.t 14))], none⟩,
       ⟨(some 16), .call (.f 53) [(.t 12), (.t 15)], none⟩,
       ⟨(some 9), .mv (.t 16), none⟩])
    (.seq (.reg [⟨(some 17), .mv (.t 9), none⟩,
        ⟨(some 18), .bin .neq (.t 17) (.c (.int .i64 0)), none⟩])
     (.cond (.t 18) (.seq (.reg [⟨(some 19), .mv (.t 9), none⟩,
          ⟨(some 6), .mv (.c (.slice none 0 0)), none⟩,
          ⟨(some 7), .mv (.c (.bool false)), none⟩,
          ⟨(some 8), .mv (.t 19), none⟩])
       (.ret)) (.skip))))
   (.seq (.reg [⟨(some 10), .mv (.c (.slice none 0 0)), none⟩])
    (.seq (.block 0 (.loop (.seq (.seq (.reg [⟨(some 20), .mv (.t 1), none⟩,
            ⟨(some 21), .bin .geq (.t 20) (.c (.int .i64 0)), none⟩,
            ⟨(some 22), .mv (.t 21), none⟩,
            ⟨(some 23), .mv (.t 0), some (22, true)⟩,
            ⟨(some 24), .mv (.t 2), some (22, true)⟩,
            ⟨(some 25), .mv (.t 1), some (22, true)⟩,
            ⟨(some 26), .call (.f 58) [(.t 23), (.t 24), (.t 25)], some (22, true)⟩,
            ⟨(some 27), .un .not (.t 26), some (22, true)⟩,
            ⟨(some 28), .pick (.t 22) (.t 27) (.c (.bool false)), none⟩])
         (.cond (.t 28) (.skip) (.exit 0)))
        (.seq (.block 1 (.reg [⟨(some 34), .mv (.t 10), none⟩,
             ⟨(some 35), .mv (.t 1), none⟩,
             ⟨(some 36), .buildSl 3 1 1 [(.int .i64 0)] [(0, 1, (.t 35))], none⟩,
             ⟨(some 37), .app 3 1 8 (.t 34) (.t 36), none⟩,
             ⟨(some 10), .mv (.t 37), none⟩]))
         (.reg [⟨(some 29), .mv (.t 0), none⟩,
            ⟨(some 30), .mv (.t 1), none⟩,
            ⟨(some 31), .iaddr 3 (.t 29) (.t 30), none⟩,
            ⟨(some 32), .faddr 1 (.t 31), none⟩,
            ⟨(some 33), .load none (.t 32), none⟩,
            ⟨(some 1), .mv (.t 33), none⟩])))))
     (.seq (.seq (.reg [⟨(some 38), .mv (.t 1), none⟩,
          ⟨(some 39), .bin .lss (.t 38) (.c (.int .i64 0)), none⟩])
       (.cond (.t 39) (.seq (.reg [⟨(some 6), .mv (.c (.slice none 0 0)), none⟩,
            ⟨(some 7), .mv (.c (.bool false)), none⟩,
            ⟨(some 8), .mv (.c (.int .i64 0)), none⟩])
         (.ret)) (.skip)))
      (.seq (.reg [⟨(some 11), .mv (.c (.slice none 0 0)), none⟩])
       (.seq (.block 2 (.loop (.seq (.seq (.reg [⟨(some 40), .mv (.t 2), none⟩,
               ⟨(some 41), .mv (.t 1), none⟩,
               ⟨(some 42), .bin .neq (.t 40) (.t 41), none⟩])
            (.cond (.t 42) (.skip) (.exit 2)))
           (.seq (.block 3 (.reg [⟨(some 48), .mv (.t 11), none⟩,
                ⟨(some 49), .mv (.t 2), none⟩,
                ⟨(some 50), .buildSl 3 1 1 [(.int .i64 0)] [(0, 1, (.t 49))], none⟩,
                ⟨(some 51), .app 3 1 8 (.t 48) (.t 50), none⟩,
                ⟨(some 11), .mv (.t 51), none⟩]))
            (.reg [⟨(some 43), .mv (.t 0), none⟩,
               ⟨(some 44), .mv (.t 2), none⟩,
               ⟨(some 45), .iaddr 3 (.t 43) (.t 44), none⟩,
               ⟨(some 46), .faddr 1 (.t 45), none⟩,
               ⟨(some 47), .load none (.t 46), none⟩,
               ⟨(some 2), .mv (.t 47), none⟩])))))
        (.seq (.reg [⟨(some 52), .mv (.t 11), none⟩,
            ⟨(some 53), .call (.f 59) [(.t 52)], none⟩])
         (.seq (.reg [⟨(some 54), .mv (.t 10), none⟩,
             ⟨(some 55), .mv (.t 1), none⟩,
             ⟨(some 56), .buildSl 3 1 1 [(.int .i64 0)] [(0, 1, (.t 55))], none⟩,
             ⟨(some 57), .mv (.t 11), none⟩,
             ⟨(some 58), .buildSl 39 1 3 [(.slice none 0 0)] [(0, 1, (.t 54)), (1, 1, (.t 56)), (2, 1, (.t 57))], none⟩,
             ⟨(some 59), .call (.f 60) [(.t 58)], none⟩,
             ⟨(some 6), .mv (.t 59), none⟩,
             ⟨(some 7), .mv (.c (.bool true)), none⟩,
             ⟨(some 8), .mv (.c (.int .i64 0)), none⟩])
          (.ret)))))))))
theorem s31_ok : lookF Try.prog 31 = some (s31, 60, [.tmp 6, .tmp 7, .tmp 8]) := by kernel_rfl
set_option maxHeartbeats 2000000 in
theorem path_ok (l : List Hung) (hs : SmH l) (i k : Int) : Fn P 31 [sl l, intA i, intA k] (triP (pathT l i k)) := by
  have c1 := at_ok l [i, k] hs
  have ea : atE l [i, k] = if valE l ≠ 0 then valE l else if (outB l i || outB l k) = true then 4 else 0 := by
    rw [atE]; simp only [List.any_cons, List.any_nil, Bool.or_false]; rfl
  rw [ea] at c1
  by_cases h1 : valE l = 0
  · obtain ⟨v1, v2, v3⟩ := valE_ok h1
    rw [if_neg (by omega)] at c1
    by_cases h2 : outB l i = true ∨ outB l k = true
    · rw [if_pos (by rw [Bool.or_eq_true]; exact h2)] at c1
      rw [pathT, if_neg (by omega), if_pos h2]
      (refine fn_look s31_ok (by simp) (by intro k; simp only [go_sem, Nat.reduceEqDiff, ↓reduceIte, reduceCtorEq, Nat.reduceAdd, Nat.reduceMul, Int.reduceToNat, List.reduceReplicate, Nat.reduceLeDiff, Nat.reduceLT, Int.reduceLT, Int.reduceLE, Int.reduceEq]) fun S hS => cwp_sound _ _ _ _ ?_; simp (disch := omega) only [s31, go_sem, Nat.reduceEqDiff, ↓reduceIte, reduceCtorEq, Nat.reduceAdd, Nat.reduceMul, Int.reduceToNat, List.reduceReplicate, Nat.reduceLeDiff, Nat.reduceLT, Int.reduceLT, Int.reduceLE, Int.reduceEq])
      repeat' (first | (with_reducible refine in_seq ?_) | (with_reducible refine in_reg ?_) | (with_reducible refine in_block ?_) | (with_reducible refine in_cond ?_) | (with_reducible refine in_ret ?_) | (with_reducible refine in_skip ?_) | (simp (disch := omega) only [go_sem, Nat.reduceEqDiff, ↓reduceIte, reduceCtorEq, Nat.reduceAdd, Nat.reduceMul, Int.reduceToNat, List.reduceReplicate, Nat.reduceLeDiff, Nat.reduceLT, Int.reduceLT, Int.reduceLE, Int.reduceEq]) | (with_reducible refine giv_intro fun _h => ?_) | (with_reducible refine alt_intro ?_ (fun _h => ?_)) | ((first | with_reducible refine br_dec (fun _h => ?_) (fun _h => ?_) | with_reducible refine br_ndec (fun _h => ?_) (fun _h => ?_)) <;> (first | (exfalso; omega) | simp only [decide_eq_false _h] | simp only [decide_eq_true _h] | skip)) | ((first | with_reducible refine br_not (fun _h => ?_) (fun _h => ?_) | with_reducible refine br_var (fun _h => ?_) (fun _h => ?_)) <;> (try simp only [_h])) | ((with_reducible apply call_lend (c1)); (focus (simp (disch := omega) only [go_sem, Nat.reduceEqDiff, ↓reduceIte, reduceCtorEq, Nat.reduceAdd, Nat.reduceMul, Int.reduceToNat, List.reduceReplicate, Nat.reduceLeDiff, Nat.reduceLT, Int.reduceLT, Int.reduceLE, Int.reduceEq]; (try rfl); done)); (focus rfl)) | fail)
      all_goals rfl
    · rw [if_neg (by rw [Bool.or_eq_true]; exact h2)] at c1
      rw [pathT, if_neg (by omega), if_neg h2]
      have hr1 := outB_no (by simpa using fun h => h2 (.inl h) : outB l i = false)
      have hr2 := outB_no (by simpa using fun h => h2 (.inr h) : outB l k = false)
      (refine fn_look s31_ok (by simp) (by intro k; simp only [go_sem, Nat.reduceEqDiff, ↓reduceIte, reduceCtorEq, Nat.reduceAdd, Nat.reduceMul, Int.reduceToNat, List.reduceReplicate, Nat.reduceLeDiff, Nat.reduceLT, Int.reduceLT, Int.reduceLE, Int.reduceEq]) fun S hS => cwp_sound _ _ _ _ ?_; simp (disch := omega) only [s31, go_sem, Nat.reduceEqDiff, ↓reduceIte, reduceCtorEq, Nat.reduceAdd, Nat.reduceMul, Int.reduceToNat, List.reduceReplicate, Nat.reduceLeDiff, Nat.reduceLT, Int.reduceLT, Int.reduceLE, Int.reduceEq])
      repeat' (first | (with_reducible refine in_seq ?_) | (with_reducible refine in_reg ?_) | (with_reducible refine in_block ?_) | (with_reducible refine in_cond ?_) | (with_reducible refine in_ret ?_) | (with_reducible refine in_skip ?_) | (simp (disch := omega) only [go_sem, Nat.reduceEqDiff, ↓reduceIte, reduceCtorEq, Nat.reduceAdd, Nat.reduceMul, Int.reduceToNat, List.reduceReplicate, Nat.reduceLeDiff, Nat.reduceLT, Int.reduceLT, Int.reduceLE, Int.reduceEq]) | (with_reducible refine giv_intro fun _h => ?_) | (with_reducible refine alt_intro ?_ (fun _h => ?_)) | ((first | with_reducible refine br_dec (fun _h => ?_) (fun _h => ?_) | with_reducible refine br_ndec (fun _h => ?_) (fun _h => ?_)) <;> (first | (exfalso; omega) | simp only [decide_eq_false _h] | simp only [decide_eq_true _h] | skip)) | ((first | with_reducible refine br_not (fun _h => ?_) (fun _h => ?_) | with_reducible refine br_var (fun _h => ?_) (fun _h => ?_)) <;> (try simp only [_h])) | ((with_reducible apply call_lend (c1)); (focus (simp (disch := omega) only [go_sem, Nat.reduceEqDiff, ↓reduceIte, reduceCtorEq, Nat.reduceAdd, Nat.reduceMul, Int.reduceToNat, List.reduceReplicate, Nat.reduceLeDiff, Nat.reduceLT, Int.reduceLT, Int.reduceLE, Int.reduceEq]; (try rfl); done)); (focus rfl)) | fail)
      refine nil_row 10 3 1 (by simp (disch := omega) only [go_sem, Nat.reduceEqDiff, ↓reduceIte, reduceCtorEq, Nat.reduceAdd, Nat.reduceMul, Int.reduceToNat, List.reduceReplicate, Nat.reduceLeDiff, Nat.reduceLT, Int.reduceLT, Int.reduceLE, Int.reduceEq]) ?_
      (refine loopC hS [0, 2] (by simp only [go_sem, Nat.reduceEqDiff, ↓reduceIte, reduceCtorEq, Nat.reduceAdd, Nat.reduceMul, Int.reduceToNat, List.reduceReplicate, Nat.reduceLeDiff, Nat.reduceLT, Int.reduceLT, Int.reduceLE, Int.reduceEq]; try rfl) (fun (⟨n, x, up⟩ : Nat × Int × List Int) => [(1, intA x), (10, own S 1 up)]) (fun (⟨n, x, up⟩ : Nat × Int × List Int) => [none, rowO 3 up]) (fun (⟨n, x, up⟩ : Nat × Int × List Int) => -2 ≤ x ∧ x < l.length ∧ it l n x < 0 ∧ up.length + n ≤ l.length + 1 ∧ wayU l i k = (up ++ (upF l k n x).1, (upF l k n x).2)) (fun (⟨n, x, up⟩ : Nat × Int × List Int) => n) ((l.length + 1, i, [])) ?h04 ?hn4 ?rd4; case hn4 => (intro s; first | rfl | (rcases s with ⟨_, _⟩; rfl) | (rcases s with ⟨_, _, _⟩; rfl) | (rcases s with ⟨_, _, _, _⟩; rfl) | (rcases s with ⟨_, _, _, _, _⟩; rfl)))
      · exact ⟨⟨by omega, by omega, it_mono l (ends_len v2 v3 (by omega)) (by omega), by simp, rfl⟩, by simp (disch := omega) only [go_sem, Nat.reduceEqDiff, ↓reduceIte, reduceCtorEq, Nat.reduceAdd, Nat.reduceMul, Int.reduceToNat, List.reduceReplicate, Nat.reduceLeDiff, Nat.reduceLT, Int.reduceLT, Int.reduceLE, Int.reduceEq], by simp (disch := omega) only [go_sem, Nat.reduceEqDiff, ↓reduceIte, reduceCtorEq, Nat.reduceAdd, Nat.reduceMul, Int.reduceToNat, List.reduceReplicate, Nat.reduceLeDiff, Nat.reduceLT, Int.reduceLT, Int.reduceLE, Int.reduceEq]⟩
      rintro ⟨n, x, up⟩ ⟨hx0, hx1, hx2, hn, hI⟩
      replace hx0 : -2 ≤ x := hx0
      replace hx1 : x < l.length := hx1
      replace hx2 : it l n x < 0 := hx2
      replace hn : up.length + n ≤ l.length + 1 := hn
      replace hI : wayU l i k = (up ++ (upF l k n x).1, (upF l k n x).2) := hI
      by_cases hx : x < 0
      · rw [upF_stop (.inl hx), List.append_nil] at hI
        rw [hI, if_pos hx]
        repeat' (first | (with_reducible refine in_seq ?_) | (with_reducible refine in_reg ?_) | (with_reducible refine in_block ?_) | (with_reducible refine in_cond ?_) | (with_reducible refine in_ret ?_) | (with_reducible refine in_skip ?_) | (simp (disch := omega) only [go_sem, Nat.reduceEqDiff, ↓reduceIte, reduceCtorEq, Nat.reduceAdd, Nat.reduceMul, Int.reduceToNat, List.reduceReplicate, Nat.reduceLeDiff, Nat.reduceLT, Int.reduceLT, Int.reduceLE, Int.reduceEq]) | (with_reducible refine giv_intro fun _h => ?_) | (with_reducible refine alt_intro ?_ (fun _h => ?_)) | ((first | with_reducible refine br_dec (fun _h => ?_) (fun _h => ?_) | with_reducible refine br_ndec (fun _h => ?_) (fun _h => ?_)) <;> (first | (exfalso; omega) | simp only [decide_eq_false _h] | simp only [decide_eq_true _h] | skip)) | ((first | with_reducible refine br_not (fun _h => ?_) (fun _h => ?_) | with_reducible refine br_var (fun _h => ?_) (fun _h => ?_)) <;> (try simp only [_h])) | fail)
        rfl
      · have c2 := hangs_ok l v2 v3 k x (by omega) (by omega) (by omega)
        by_cases hg : hgB l k x = true
        · rw [upF_stop (.inr hg), List.append_nil] at hI
          rw [hI, if_neg (by dsimp only; omega)]
          rw [hg] at c2
          have hkx := (hgB_iff v2 v3 hr2.2).1 hg
          dsimp only
          repeat' (first | (with_reducible refine in_seq ?_) | (with_reducible refine in_reg ?_) | (with_reducible refine in_block ?_) | (with_reducible refine in_cond ?_) | (with_reducible refine in_ret ?_) | (with_reducible refine in_skip ?_) | (simp (disch := omega) only [go_sem, Nat.reduceEqDiff, ↓reduceIte, reduceCtorEq, Nat.reduceAdd, Nat.reduceMul, Int.reduceToNat, List.reduceReplicate, Nat.reduceLeDiff, Nat.reduceLT, Int.reduceLT, Int.reduceLE, Int.reduceEq]) | (with_reducible refine giv_intro fun _h => ?_) | (with_reducible refine alt_intro ?_ (fun _h => ?_)) | ((first | with_reducible refine br_dec (fun _h => ?_) (fun _h => ?_) | with_reducible refine br_ndec (fun _h => ?_) (fun _h => ?_)) <;> (first | (exfalso; omega) | simp only [decide_eq_false _h] | simp only [decide_eq_true _h] | skip)) | ((first | with_reducible refine br_not (fun _h => ?_) (fun _h => ?_) | with_reducible refine br_var (fun _h => ?_) (fun _h => ?_)) <;> (try simp only [_h])) | ((with_reducible apply call (c2)); (focus (simp (disch := omega) only [go_sem, Nat.reduceEqDiff, ↓reduceIte, reduceCtorEq, Nat.reduceAdd, Nat.reduceMul, Int.reduceToNat, List.reduceReplicate, Nat.reduceLeDiff, Nat.reduceLT, Int.reduceLT, Int.reduceLE, Int.reduceEq]; (try rfl); done))) | fail)
          refine nil_row 11 3 1 (by simp (disch := omega) only [go_sem, Nat.reduceEqDiff, ↓reduceIte, reduceCtorEq, Nat.reduceAdd, Nat.reduceMul, Int.reduceToNat, List.reduceReplicate, Nat.reduceLeDiff, Nat.reduceLT, Int.reduceLT, Int.reduceLE, Int.reduceEq]) ?_
          (refine loopC hS [0, 1, 10] (by simp only [go_sem, Nat.reduceEqDiff, ↓reduceIte, reduceCtorEq, Nat.reduceAdd, Nat.reduceMul, Int.reduceToNat, List.reduceReplicate, Nat.reduceLeDiff, Nat.reduceLT, Int.reduceLT, Int.reduceLE, Int.reduceEq]; try rfl) (fun (⟨m, y, dn⟩ : Nat × Int × List Int) => [(2, intA y), (11, own S 2 dn)]) (fun (⟨m, y, dn⟩ : Nat × Int × List Int) => [none, rowO 3 up, rowO 3 dn]) (fun (⟨m, y, dn⟩ : Nat × Int × List Int) => 0 ≤ y ∧ y < l.length ∧ Hg l y x ∧ it l m y < 0 ∧ dn.length + m ≤ l.length + 1 ∧ wayD l x k = dn ++ downF l x m y) (fun (⟨m, y, dn⟩ : Nat × Int × List Int) => m) ((l.length + 1, k, [])) ?h05 ?hn5 ?rd5; case hn5 => (intro s; first | rfl | (rcases s with ⟨_, _⟩; rfl) | (rcases s with ⟨_, _, _⟩; rfl) | (rcases s with ⟨_, _, _, _⟩; rfl) | (rcases s with ⟨_, _, _, _, _⟩; rfl)))
          · exact ⟨⟨by omega, by omega, hkx, it_mono l (ends_len v2 v3 (by omega)) (by omega), by simp, rfl⟩, by simp (disch := omega) only [go_sem, Nat.reduceEqDiff, ↓reduceIte, reduceCtorEq, Nat.reduceAdd, Nat.reduceMul, Int.reduceToNat, List.reduceReplicate, Nat.reduceLeDiff, Nat.reduceLT, Int.reduceLT, Int.reduceLE, Int.reduceEq], by simp (disch := omega) only [go_sem, Nat.reduceEqDiff, ↓reduceIte, reduceCtorEq, Nat.reduceAdd, Nat.reduceMul, Int.reduceToNat, List.reduceReplicate, Nat.reduceLeDiff, Nat.reduceLT, Int.reduceLT, Int.reduceLE, Int.reduceEq]⟩
          rintro ⟨m, y, dn⟩ ⟨hy0, hy1, hyx, hy2, hm, hJ⟩
          replace hy0 : 0 ≤ y := hy0
          replace hy1 : y < l.length := hy1
          replace hyx : Hg l y x := hyx
          replace hy2 : it l m y < 0 := hy2
          replace hm : dn.length + m ≤ l.length + 1 := hm
          replace hJ : wayD l x k = dn ++ downF l x m y := hJ
          by_cases hy : y = x
          · subst hy
            rw [downF_stop, List.append_nil] at hJ
            rw [hJ]
            repeat' (first | (with_reducible refine in_seq ?_) | (with_reducible refine in_reg ?_) | (with_reducible refine in_block ?_) | (with_reducible refine in_cond ?_) | (with_reducible refine in_ret ?_) | (with_reducible refine in_skip ?_) | (simp (disch := omega) only [go_sem, Nat.reduceEqDiff, ↓reduceIte, reduceCtorEq, Nat.reduceAdd, Nat.reduceMul, Int.reduceToNat, List.reduceReplicate, Nat.reduceLeDiff, Nat.reduceLT, Int.reduceLT, Int.reduceLE, Int.reduceEq]) | (with_reducible refine giv_intro fun _h => ?_) | (with_reducible refine alt_intro ?_ (fun _h => ?_)) | ((first | with_reducible refine br_dec (fun _h => ?_) (fun _h => ?_) | with_reducible refine br_ndec (fun _h => ?_) (fun _h => ?_)) <;> (first | (exfalso; omega) | simp only [decide_eq_false _h] | simp only [decide_eq_true _h] | skip)) | ((first | with_reducible refine br_not (fun _h => ?_) (fun _h => ?_) | with_reducible refine br_var (fun _h => ?_) (fun _h => ?_)) <;> (try simp only [_h])) | ((with_reducible refine callI s59_ok (by simp) hS (cwp_sound _ _ _ _ ?_)); simp (disch := omega) only [s59, go_sem, Nat.reduceEqDiff, ↓reduceIte, reduceCtorEq, Nat.reduceAdd, Nat.reduceMul, Int.reduceToNat, List.reduceReplicate, Nat.reduceLeDiff, Nat.reduceLT, Int.reduceLT, Int.reduceLE, Int.reduceEq]) | fail)
            
            (refine loopC hS [0] (by simp only [go_sem, Nat.reduceEqDiff, ↓reduceIte, reduceCtorEq, Nat.reduceAdd, Nat.reduceMul, Int.reduceToNat, List.reduceReplicate, Nat.reduceLeDiff, Nat.reduceLT, Int.reduceLT, Int.reduceLE, Int.reduceEq]; try rfl) (fun (⟨j, cur⟩ : Nat × List Int) => [(2, intA j), (3, intA ((dn.length : Int) - 1 - j))]) (fun (⟨j, cur⟩ : Nat × List Int) => [none, rowO 3 up, rowO 3 cur]) (fun (⟨j, cur⟩ : Nat × List Int) => cur.length = dn.length ∧ (j : Int) ≤ dn.length - j + 1 ∧ ∀ p, p < dn.length → nth cur p = if p < j ∨ dn.length ≤ p + j then nth dn (dn.length - 1 - p) else nth dn p) (fun (⟨j, cur⟩ : Nat × List Int) => dn.length - j) ((0, dn)) ?h06 ?hn6 ?rd6; case hn6 => (intro s; first | rfl | (rcases s with ⟨_, _⟩; rfl) | (rcases s with ⟨_, _, _⟩; rfl) | (rcases s with ⟨_, _, _, _⟩; rfl) | (rcases s with ⟨_, _, _, _, _⟩; rfl)))
            · refine ⟨⟨rfl, by omega, fun p hp => ?_⟩, by simp (disch := omega) only [go_sem, Nat.reduceEqDiff, ↓reduceIte, reduceCtorEq, Nat.reduceAdd, Nat.reduceMul, Int.reduceToNat, List.reduceReplicate, Nat.reduceLeDiff, Nat.reduceLT, Int.reduceLT, Int.reduceLE, Int.reduceEq]; omega, by simp (disch := omega) only [go_sem, Nat.reduceEqDiff, ↓reduceIte, reduceCtorEq, Nat.reduceAdd, Nat.reduceMul, Int.reduceToNat, List.reduceReplicate, Nat.reduceLeDiff, Nat.reduceLT, Int.reduceLT, Int.reduceLE, Int.reduceEq]⟩
              rw [if_neg (by omega)]
            rintro ⟨j, cur⟩ ⟨hcl, hj, hC⟩
            replace hcl : cur.length = dn.length := hcl
            replace hj : (j : Int) ≤ dn.length - j + 1 := hj
            replace hC : ∀ p, p < dn.length → nth cur p = if p < j ∨ dn.length ≤ p + j then nth dn (dn.length - 1 - p) else nth dn p := hC
            by_cases hjj : (j : Int) < dn.length - 1 - j
            · have e1 : (dn.length : Int) - 1 - j = ((dn.length - 1 - j : Nat) : Int) := by omega
              have hja : j < cur.length := by omega
              have hjb : dn.length - 1 - j < cur.length := by omega
              repeat' (first | (with_reducible refine in_seq ?_) | (with_reducible refine in_reg ?_) | (with_reducible refine in_block ?_) | (with_reducible refine in_cond ?_) | (with_reducible refine in_ret ?_) | (with_reducible refine in_skip ?_) | (simp (disch := omega) only [go_sem, Nat.reduceEqDiff, ↓reduceIte, reduceCtorEq, Nat.reduceAdd, Nat.reduceMul, Int.reduceToNat, List.reduceReplicate, Nat.reduceLeDiff, Nat.reduceLT, Int.reduceLT, Int.reduceLE, Int.reduceEq, e1, putAt_len, put_fold]) | (with_reducible refine giv_intro fun _h => ?_) | (with_reducible refine alt_intro ?_ (fun _h => ?_)) | ((first | with_reducible refine br_dec (fun _h => ?_) (fun _h => ?_) | with_reducible refine br_ndec (fun _h => ?_) (fun _h => ?_)) <;> (first | (exfalso; omega) | simp only [decide_eq_false _h] | simp only [decide_eq_true _h] | skip)) | ((first | with_reducible refine br_not (fun _h => ?_) (fun _h => ?_) | with_reducible refine br_var (fun _h => ?_) (fun _h => ?_)) <;> (try simp only [_h])) | fail)
              refine ⟨(j + 1, putAt (putAt cur j (nth cur (dn.length - 1 - j))) (dn.length - 1 - j) (nth cur j)), ?_⟩
              dsimp only
              refine ⟨⟨by omega, by rw [putAt_len (by rw [putAt_len hja]; exact hjb), putAt_len hja]; exact hcl, by omega, fun p hp => ?_⟩, ⟨by omega, by omega⟩, rfl⟩
              rw [nth_put2 hja hjb]
              by_cases q1 : p = dn.length - 1 - j
              · rw [if_pos q1, if_pos (by omega), hC j (by omega), if_neg (by omega)]; congr 1; omega
              · rw [if_neg q1]
                by_cases q2 : p = j
                · rw [if_pos q2, if_pos (by omega), hC _ (by omega), if_neg (by omega)]; congr 1; omega
                · rw [if_neg q2, hC p hp]
                  by_cases q3 : p < j ∨ dn.length ≤ p + j
                  · rw [if_pos q3, if_pos (by omega)]
                  · rw [if_neg q3, if_neg (by omega)]
            · have hrev : cur = dn.reverse := by
                refine ext_nth (by simp; omega) fun p hp => ?_
                rw [hC p (by omega), nth_rev (by omega)]
                by_cases hc : p < j ∨ dn.length ≤ p + j
                · rw [if_pos hc]
                · rw [if_neg hc]; congr 1; omega
              subst hrev
              have k2 := concatI_ok [up, [y], dn.reverse] (by simp) (by simp; omega)
              have ef : List.flatten [up, [y], dn.reverse] = up ++ (y :: dn.reverse) := by simp
              rw [ef] at k2
              repeat' (first | (with_reducible refine in_seq ?_) | (with_reducible refine in_reg ?_) | (with_reducible refine in_block ?_) | (with_reducible refine in_cond ?_) | (with_reducible refine in_ret ?_) | (with_reducible refine in_skip ?_) | (simp (disch := omega) only [go_sem, Nat.reduceEqDiff, ↓reduceIte, reduceCtorEq, Nat.reduceAdd, Nat.reduceMul, Int.reduceToNat, List.reduceReplicate, Nat.reduceLeDiff, Nat.reduceLT, Int.reduceLT, Int.reduceLE, Int.reduceEq, r_zero]) | (with_reducible refine giv_intro fun _h => ?_) | (with_reducible refine alt_intro ?_ (fun _h => ?_)) | ((first | with_reducible refine br_dec (fun _h => ?_) (fun _h => ?_) | with_reducible refine br_ndec (fun _h => ?_) (fun _h => ?_)) <;> (first | (exfalso; omega) | simp only [decide_eq_false _h] | simp only [decide_eq_true _h] | skip)) | ((first | with_reducible refine br_not (fun _h => ?_) (fun _h => ?_) | with_reducible refine br_var (fun _h => ?_) (fun _h => ?_)) <;> (try simp only [_h])) | ((with_reducible apply call_give (k2)); (focus (simp (disch := omega) only [go_sem, Nat.reduceEqDiff, ↓reduceIte, reduceCtorEq, Nat.reduceAdd, Nat.reduceMul, Int.reduceToNat, List.reduceReplicate, Nat.reduceLeDiff, Nat.reduceLT, Int.reduceLT, Int.reduceLE, Int.reduceEq, r_zero]; (try rfl); done))) | fail)
          · have hh := hd_nth (l := l) hy0
            cases m with
            | zero => exact absurd hy2 (by show ¬y < 0; omega)
            | succ m =>
              rw [downF, if_neg hy] at hJ
              have hst := (hg_step hy0 hy).1 hyx
              have hlt := hd_lt v2 hy1
              have h0 : 0 ≤ hd l y := by
                rcases Int.lt_or_le (hd l y) 0 with h | h
                · exact absurd hst (hg_neg h)
                · exact h
              repeat' (first | (with_reducible refine in_seq ?_) | (with_reducible refine in_reg ?_) | (with_reducible refine in_block ?_) | (with_reducible refine in_cond ?_) | (with_reducible refine in_ret ?_) | (with_reducible refine in_skip ?_) | (simp (disch := omega) only [go_sem, Nat.reduceEqDiff, ↓reduceIte, reduceCtorEq, Nat.reduceAdd, Nat.reduceMul, Int.reduceToNat, List.reduceReplicate, Nat.reduceLeDiff, Nat.reduceLT, Int.reduceLT, Int.reduceLE, Int.reduceEq, ← hh]) | (with_reducible refine giv_intro fun _h => ?_) | (with_reducible refine alt_intro ?_ (fun _h => ?_)) | ((first | with_reducible refine br_dec (fun _h => ?_) (fun _h => ?_) | with_reducible refine br_ndec (fun _h => ?_) (fun _h => ?_)) <;> (first | (exfalso; omega) | simp only [decide_eq_false _h] | simp only [decide_eq_true _h] | skip)) | ((first | with_reducible refine br_not (fun _h => ?_) (fun _h => ?_) | with_reducible refine br_var (fun _h => ?_) (fun _h => ?_)) <;> (try simp only [_h])) | fail)
              refine ⟨(m, hd l y, dn ++ [y]), ?_⟩
              dsimp only
              exact ⟨⟨by omega, h0, hlt, hst, hy2, by simp; omega, by rw [hJ]; simp⟩, ⟨rfl, by simp⟩, rfl⟩
        · rw [show hgB l k x = false by simpa using hg] at c2
          have hh := hd_nth (l := l) (x := x) (by omega)
          cases n with
          | zero => exact absurd hx2 hx
          | succ n =>
            rw [upF, if_neg (by rw [not_or]; exact ⟨hx, hg⟩)] at hI
            have hlt := hd_lt v2 hx1
            have hlo := hd_lo v2 hx1 hx0
            repeat' (first | (with_reducible refine in_seq ?_) | (with_reducible refine in_reg ?_) | (with_reducible refine in_block ?_) | (with_reducible refine in_cond ?_) | (with_reducible refine in_ret ?_) | (with_reducible refine in_skip ?_) | (simp (disch := omega) only [go_sem, Nat.reduceEqDiff, ↓reduceIte, reduceCtorEq, Nat.reduceAdd, Nat.reduceMul, Int.reduceToNat, List.reduceReplicate, Nat.reduceLeDiff, Nat.reduceLT, Int.reduceLT, Int.reduceLE, Int.reduceEq, ← hh]) | (with_reducible refine giv_intro fun _h => ?_) | (with_reducible refine alt_intro ?_ (fun _h => ?_)) | ((first | with_reducible refine br_dec (fun _h => ?_) (fun _h => ?_) | with_reducible refine br_ndec (fun _h => ?_) (fun _h => ?_)) <;> (first | (exfalso; omega) | simp only [decide_eq_false _h] | simp only [decide_eq_true _h] | skip)) | ((first | with_reducible refine br_not (fun _h => ?_) (fun _h => ?_) | with_reducible refine br_var (fun _h => ?_) (fun _h => ?_)) <;> (try simp only [_h])) | ((with_reducible apply call (c2)); (focus (simp (disch := omega) only [go_sem, Nat.reduceEqDiff, ↓reduceIte, reduceCtorEq, Nat.reduceAdd, Nat.reduceMul, Int.reduceToNat, List.reduceReplicate, Nat.reduceLeDiff, Nat.reduceLT, Int.reduceLT, Int.reduceLE, Int.reduceEq, ← hh]; (try rfl); done))) | fail)
            refine ⟨(n, hd l x, up ++ [x]), ?_⟩
            dsimp only
            exact ⟨⟨by omega, hlo, hlt, hx2, by simp; omega, by rw [hI]; simp⟩, ⟨rfl, by simp⟩, rfl⟩
  · rw [if_pos h1] at c1
    rw [pathT, if_pos h1]
    (refine fn_look s31_ok (by simp) (by intro k; simp only [go_sem, Nat.reduceEqDiff, ↓reduceIte, reduceCtorEq, Nat.reduceAdd, Nat.reduceMul, Int.reduceToNat, List.reduceReplicate, Nat.reduceLeDiff, Nat.reduceLT, Int.reduceLT, Int.reduceLE, Int.reduceEq]) fun S hS => cwp_sound _ _ _ _ ?_; simp (disch := omega) only [s31, go_sem, Nat.reduceEqDiff, ↓reduceIte, reduceCtorEq, Nat.reduceAdd, Nat.reduceMul, Int.reduceToNat, List.reduceReplicate, Nat.reduceLeDiff, Nat.reduceLT, Int.reduceLT, Int.reduceLE, Int.reduceEq])
    repeat' (first | (with_reducible refine in_seq ?_) | (with_reducible refine in_reg ?_) | (with_reducible refine in_block ?_) | (with_reducible refine in_cond ?_) | (with_reducible refine in_ret ?_) | (with_reducible refine in_skip ?_) | (simp (disch := omega) only [go_sem, Nat.reduceEqDiff, ↓reduceIte, reduceCtorEq, Nat.reduceAdd, Nat.reduceMul, Int.reduceToNat, List.reduceReplicate, Nat.reduceLeDiff, Nat.reduceLT, Int.reduceLT, Int.reduceLE, Int.reduceEq]) | (with_reducible refine giv_intro fun _h => ?_) | (with_reducible refine alt_intro ?_ (fun _h => ?_)) | ((first | with_reducible refine br_dec (fun _h => ?_) (fun _h => ?_) | with_reducible refine br_ndec (fun _h => ?_) (fun _h => ?_)) <;> (first | (exfalso; omega) | simp only [decide_eq_false _h] | simp only [decide_eq_true _h] | skip)) | ((first | with_reducible refine br_not (fun _h => ?_) (fun _h => ?_) | with_reducible refine br_var (fun _h => ?_) (fun _h => ?_)) <;> (try simp only [_h])) | ((with_reducible apply call_lend (c1)); (focus (simp (disch := omega) only [go_sem, Nat.reduceEqDiff, ↓reduceIte, reduceCtorEq, Nat.reduceAdd, Nat.reduceMul, Int.reduceToNat, List.reduceReplicate, Nat.reduceLeDiff, Nat.reduceLT, Int.reduceLT, Int.reduceLE, Int.reduceEq]; (try rfl); done)); (focus rfl)) | fail)
    all_goals rfl
/-- ablaut/ablautref21.Path: 3 parameters, 0 captured -/
def s32 : SC := .seq (.reg [⟨(some 6), .mv (.c (.slice none 0 0)), none⟩,
     ⟨(some 7), .mv (.c (.bool false)), none⟩,
     ⟨(some 8), .mv (.c (.int .i64 0)), none⟩])
  (.seq (.seq (.reg [⟨(some 13), .mv (.t 0), none⟩,
       ⟨(some 14), .call (.f 45) [(.t 13)], none⟩,
       ⟨(some 9), .mv (.t 14), none⟩])
    (.seq (.reg [⟨(some 15), .mv (.t 9), none⟩,
        ⟨(some 16), .bin .neq (.t 15) (.c (.int .i64 0)), none⟩])
     (.cond (.t 16) (.seq (.reg [⟨(some 17), .mv (.t 9), none⟩,
          ⟨(some 6), .mv (.c (.slice none 0 0)), none⟩,
          ⟨(some 7), .mv (.c (.bool false)), none⟩,
          ⟨(some 8), .mv (.t 17), none⟩])
       (.ret)) (.skip))))
   (.seq (.seq (.reg [⟨(some 18), .mv (.t 1), none⟩,
        ⟨(some 19), .bin .lss (.t 18) (.c (.int .i64 0)), none⟩,
        ⟨(some 20), .mv (.t 19), none⟩,
        ⟨(some 21), .mv (.t 1), some (20, false)⟩,
        ⟨(some 22), .mv (.t 0), some (20, false)⟩,
        ⟨(some 23), .lenL (.t 22), some (20, false)⟩,
        ⟨(some 24), .bin .geq (.t 21) (.t 23), some (20, false)⟩,
        ⟨(some 25), .pick (.t 20) (.c (.bool true)) (.t 24), none⟩,
        ⟨(some 26), .mv (.t 25), none⟩,
        ⟨(some 27), .mv (.t 2), some (26, false)⟩,
        ⟨(some 28), .bin .lss (.t 27) (.c (.int .i64 0)), some (26, false)⟩,
        ⟨(some 29), .pick (.t 26) (.c (.bool true)) (.t 28), none⟩,
        ⟨(some 30), .mv (.t 29), none⟩,
        ⟨(some 31), .mv (.t 2), some (30, false)⟩,
        ⟨(some 32), .mv (.t 0), some (30, false)⟩,
        ⟨(some 33), .lenL (.t 32), some (30, false)⟩,
        ⟨(some 34), .bin .geq (.t 31) (.t 33), some (30, false)⟩,
        ⟨(some 35), .pick (.t 30) (.c (.bool true)) (.t 34), none⟩])
     (.cond (.t 35) (.seq (.reg [⟨(some 6), .mv (.c (.slice none 0 0)), none⟩,
          ⟨(some 7), .mv (.c (.bool false)), none⟩,
          ⟨(some 8), .mv (.c (.int .i64 4)), none⟩])
       (.ret)) (.skip)))
    (.seq (.reg [⟨(some 10), .mv (.c (.slice none 0 0)), none⟩,
        ⟨(some 11), .mv (.c (.slice none 0 0)), none⟩])
     (.seq (.reg [⟨(some 36), .mv (.t 1), none⟩,
         ⟨(some 12), .mv (.t 36), none⟩])
      (.seq (.block 0 (.loop (.seq (.seq (.reg [⟨(some 37), .mv (.t 0), none⟩,
              ⟨(some 38), .mv (.t 2), none⟩,
              ⟨(some 39), .mv (.t 12), none⟩,
              ⟨(some 40), .call (.f 61) [(.t 37), (.t 38), (.t 39)], none⟩,
              ⟨(some 41), .un .not (.t 40), none⟩])
           (.cond (.t 41) (.skip) (.exit 0)))
          (.block 1 (.seq (.reg [⟨(some 42), .mv (.t 10), none⟩,
               ⟨(some 43), .mv (.t 12), none⟩,
               ⟨(some 44), .buildSl 3 1 1 [(.int .i64 0)] [(0, 1, (.t 43))], none⟩,
               ⟨(some 45), .app 3 1 8 (.t 42) (.t 44), none⟩,
               ⟨(some 10), .mv (.t 45), none⟩])
            (.seq (.reg [⟨(some 46), .mv (.t 0), none⟩,
                ⟨(some 47), .mv (.t 12), none⟩,
                ⟨(some 48), .iaddr 3 (.t 46) (.t 47), none⟩,
                ⟨(some 49), .faddr 1 (.t 48), none⟩,
                ⟨(some 50), .load none (.t 49), none⟩,
                ⟨(some 12), .mv (.t 50), none⟩])
             (.seq (.reg [⟨(some 51), .mv (.t 12), none⟩,
                 ⟨(some 52), .bin .lss (.t 51) (.c (.int .i64 0)), none⟩])
              (.cond (.t 52) (.seq (.reg [⟨(some 6), .mv (.c (.slice none 0 0)), none⟩,
                   ⟨(some 7), .mv (.c (.bool false)), none⟩,
                   ⟨(some 8), .mv (.c (.int .i64 0)), none⟩])
                (.ret)) (.skip)))))))))
       (.seq (.block 2 (.loop (.seq (.seq (.reg [⟨(some 53), .mv (.t 2), none⟩,
               ⟨(some 54), .mv (.t 12), none⟩,
               ⟨(some 55), .bin .neq (.t 53) (.t 54), none⟩])
            (.cond (.t 55) (.skip) (.exit 2)))
           (.block 3 (.seq (.reg [⟨(some 56), .mv (.t 2), none⟩,
                ⟨(some 57), .buildSl 3 1 1 [(.int .i64 0)] [(0, 1, (.t 56))], none⟩,
                ⟨(some 58), .mv (.t 11), none⟩,
                ⟨(some 59), .app 3 1 8 (.t 57) (.t 58), none⟩,
                ⟨(some 11), .mv (.t 59), none⟩])
             (.reg [⟨(some 60), .mv (.t 0), none⟩,
                ⟨(some 61), .mv (.t 2), none⟩,
                ⟨(some 62), .iaddr 3 (.t 60) (.t 61), none⟩,
                ⟨(some 63), .faddr 1 (.t 62), none⟩,
                ⟨(some 64), .load none (.t 63), none⟩,
                ⟨(some 2), .mv (.t 64), none⟩]))))))
        (.seq (.reg [⟨(some 65), .mv (.t 10), none⟩,
            ⟨(some 66), .mv (.t 12), none⟩,
            ⟨(some 67), .buildSl 3 1 1 [(.int .i64 0)] [(0, 1, (.t 66))], none⟩,
            ⟨(some 68), .app 3 1 8 (.t 65) (.t 67), none⟩,
            ⟨(some 69), .mv (.t 11), none⟩,
            ⟨(some 70), .app 3 1 8 (.t 68) (.t 69), none⟩,
            ⟨(some 6), .mv (.t 70), none⟩,
            ⟨(some 7), .mv (.c (.bool true)), none⟩,
            ⟨(some 8), .mv (.c (.int .i64 0)), none⟩])
         (.ret))))))))
theorem s32_ok : lookF Try.prog 32 = some (s32, 71, [.tmp 6, .tmp 7, .tmp 8]) := by kernel_rfl
set_option maxHeartbeats 2000000 in
theorem rPath_ok (l : List Hung) (hs : SmH l) (i k : Int) : Fn P 32 [sl l, intA i, intA k] (triP (pathT l i k)) := by
  have c1 := rValidate_ok l hs
  by_cases h1 : valE l = 0
  · obtain ⟨v1, v2, v3⟩ := valE_ok h1
    rw [h1] at c1
    by_cases h2 : outB l i = true ∨ outB l k = true
    · rw [pathT, if_neg (by omega), if_pos h2]
      simp only [outB, Bool.or_eq_true, decide_eq_true_eq] at h2
      (refine fn_look s32_ok (by simp) (by intro k; simp only [go_sem, Nat.reduceEqDiff, ↓reduceIte, reduceCtorEq, Nat.reduceAdd, Nat.reduceMul, Int.reduceToNat, List.reduceReplicate, Nat.reduceLeDiff, Nat.reduceLT, Int.reduceLT, Int.reduceLE, Int.reduceEq]) fun S hS => cwp_sound _ _ _ _ ?_; simp (disch := omega) only [s32, go_sem, Nat.reduceEqDiff, ↓reduceIte, reduceCtorEq, Nat.reduceAdd, Nat.reduceMul, Int.reduceToNat, List.reduceReplicate, Nat.reduceLeDiff, Nat.reduceLT, Int.reduceLT, Int.reduceLE, Int.reduceEq])
      repeat' (first | (with_reducible refine in_seq ?_) | (with_reducible refine in_reg ?_) | (with_reducible refine in_block ?_) | (with_reducible refine in_cond ?_) | (with_reducible refine in_ret ?_) | (with_reducible refine in_skip ?_) | (simp (disch := omega) only [go_sem, Nat.reduceEqDiff, ↓reduceIte, reduceCtorEq, Nat.reduceAdd, Nat.reduceMul, Int.reduceToNat, List.reduceReplicate, Nat.reduceLeDiff, Nat.reduceLT, Int.reduceLT, Int.reduceLE, Int.reduceEq]) | (with_reducible refine giv_intro fun _h => ?_) | (with_reducible refine alt_intro ?_ (fun _h => ?_)) | ((first | with_reducible refine br_dec (fun _h => ?_) (fun _h => ?_) | with_reducible refine br_ndec (fun _h => ?_) (fun _h => ?_)) <;> (first | (exfalso; omega) | simp only [decide_eq_false _h] | simp only [decide_eq_true _h] | skip)) | ((first | with_reducible refine br_not (fun _h => ?_) (fun _h => ?_) | with_reducible refine br_var (fun _h => ?_) (fun _h => ?_)) <;> (try simp only [_h])) | ((with_reducible apply call (c1)); (focus (simp (disch := omega) only [go_sem, Nat.reduceEqDiff, ↓reduceIte, reduceCtorEq, Nat.reduceAdd, Nat.reduceMul, Int.reduceToNat, List.reduceReplicate, Nat.reduceLeDiff, Nat.reduceLT, Int.reduceLT, Int.reduceLE, Int.reduceEq]; (try rfl); done))) | fail)
      all_goals first
        | rfl
        | (exfalso; omega)
    · rw [pathT, if_neg (by omega), if_neg h2]
      have hr1 := outB_no (by simpa using fun h => h2 (.inl h) : outB l i = false)
      have hr2 := outB_no (by simpa using fun h => h2 (.inr h) : outB l k = false)
      (refine fn_look s32_ok (by simp) (by intro k; simp only [go_sem, Nat.reduceEqDiff, ↓reduceIte, reduceCtorEq, Nat.reduceAdd, Nat.reduceMul, Int.reduceToNat, List.reduceReplicate, Nat.reduceLeDiff, Nat.reduceLT, Int.reduceLT, Int.reduceLE, Int.reduceEq]) fun S hS => cwp_sound _ _ _ _ ?_; simp (disch := omega) only [s32, go_sem, Nat.reduceEqDiff, ↓reduceIte, reduceCtorEq, Nat.reduceAdd, Nat.reduceMul, Int.reduceToNat, List.reduceReplicate, Nat.reduceLeDiff, Nat.reduceLT, Int.reduceLT, Int.reduceLE, Int.reduceEq])
      repeat' (first | (with_reducible refine in_seq ?_) | (with_reducible refine in_reg ?_) | (with_reducible refine in_block ?_) | (with_reducible refine in_cond ?_) | (with_reducible refine in_ret ?_) | (with_reducible refine in_skip ?_) | (simp (disch := omega) only [go_sem, Nat.reduceEqDiff, ↓reduceIte, reduceCtorEq, Nat.reduceAdd, Nat.reduceMul, Int.reduceToNat, List.reduceReplicate, Nat.reduceLeDiff, Nat.reduceLT, Int.reduceLT, Int.reduceLE, Int.reduceEq]) | (with_reducible refine giv_intro fun _h => ?_) | (with_reducible refine alt_intro ?_ (fun _h => ?_)) | ((first | with_reducible refine br_dec (fun _h => ?_) (fun _h => ?_) | with_reducible refine br_ndec (fun _h => ?_) (fun _h => ?_)) <;> (first | (exfalso; omega) | simp only [decide_eq_false _h] | simp only [decide_eq_true _h] | skip)) | ((first | with_reducible refine br_not (fun _h => ?_) (fun _h => ?_) | with_reducible refine br_var (fun _h => ?_) (fun _h => ?_)) <;> (try simp only [_h])) | ((with_reducible apply call (c1)); (focus (simp (disch := omega) only [go_sem, Nat.reduceEqDiff, ↓reduceIte, reduceCtorEq, Nat.reduceAdd, Nat.reduceMul, Int.reduceToNat, List.reduceReplicate, Nat.reduceLeDiff, Nat.reduceLT, Int.reduceLT, Int.reduceLE, Int.reduceEq]; (try rfl); done))) | fail)
      refine nil_row 10 3 1 (by simp (disch := omega) only [go_sem, Nat.reduceEqDiff, ↓reduceIte, reduceCtorEq, Nat.reduceAdd, Nat.reduceMul, Int.reduceToNat, List.reduceReplicate, Nat.reduceLeDiff, Nat.reduceLT, Int.reduceLT, Int.reduceLE, Int.reduceEq]) ?_
      refine nil_row 11 3 1 (by simp (disch := omega) only [go_sem, Nat.reduceEqDiff, ↓reduceIte, reduceCtorEq, Nat.reduceAdd, Nat.reduceMul, Int.reduceToNat, List.reduceReplicate, Nat.reduceLeDiff, Nat.reduceLT, Int.reduceLT, Int.reduceLE, Int.reduceEq]) ?_
      (refine loopC hS [0, 2, 11] (by simp only [go_sem, Nat.reduceEqDiff, ↓reduceIte, reduceCtorEq, Nat.reduceAdd, Nat.reduceMul, Int.reduceToNat, List.reduceReplicate, Nat.reduceLeDiff, Nat.reduceLT, Int.reduceLT, Int.reduceLE, Int.reduceEq]; try rfl) (fun (⟨n, x, up⟩ : Nat × Int × List Int) => [(12, intA x), (10, own S 0 up)]) (fun (⟨n, x, up⟩ : Nat × Int × List Int) => [rowO 3 up, rowO 3 ([] : List Int)]) (fun (⟨n, x, up⟩ : Nat × Int × List Int) => 0 ≤ x ∧ x < l.length ∧ it l n x < 0 ∧ up.length + n ≤ l.length + 1 ∧ wayU l i k = (up ++ (upF l k n x).1, (upF l k n x).2)) (fun (⟨n, x, up⟩ : Nat × Int × List Int) => n) ((l.length + 1, i, [])) ?h07 ?hn7 ?rd7; case hn7 => (intro s; first | rfl | (rcases s with ⟨_, _⟩; rfl) | (rcases s with ⟨_, _, _⟩; rfl) | (rcases s with ⟨_, _, _, _⟩; rfl) | (rcases s with ⟨_, _, _, _, _⟩; rfl)))
      · exact ⟨⟨by omega, by omega, it_mono l (ends_len v2 v3 (by omega)) (by omega), by simp, rfl⟩, by simp (disch := omega) only [go_sem, Nat.reduceEqDiff, ↓reduceIte, reduceCtorEq, Nat.reduceAdd, Nat.reduceMul, Int.reduceToNat, List.reduceReplicate, Nat.reduceLeDiff, Nat.reduceLT, Int.reduceLT, Int.reduceLE, Int.reduceEq], by simp (disch := omega) only [go_sem, Nat.reduceEqDiff, ↓reduceIte, reduceCtorEq, Nat.reduceAdd, Nat.reduceMul, Int.reduceToNat, List.reduceReplicate, Nat.reduceLeDiff, Nat.reduceLT, Int.reduceLT, Int.reduceLE, Int.reduceEq]⟩
      rintro ⟨n, x, up⟩ ⟨hx0, hx1, hx2, hn, hI⟩
      replace hx0 : 0 ≤ x := hx0
      replace hx1 : x < l.length := hx1
      replace hx2 : it l n x < 0 := hx2
      replace hn : up.length + n ≤ l.length + 1 := hn
      replace hI : wayU l i k = (up ++ (upF l k n x).1, (upF l k n x).2) := hI
      have c2 := rHangs_ok l v2 (by omega) k x hr2.2
      by_cases hg : hgB l k x = true
      · rw [upF_stop (.inr hg), List.append_nil] at hI
        rw [hI, if_neg (by dsimp only; omega)]
        rw [hg] at c2
        have hkx := (hgB_iff v2 v3 hr2.2).1 hg
        dsimp only
        repeat' (first | (with_reducible refine in_seq ?_) | (with_reducible refine in_reg ?_) | (with_reducible refine in_block ?_) | (with_reducible refine in_cond ?_) | (with_reducible refine in_ret ?_) | (with_reducible refine in_skip ?_) | (simp (disch := omega) only [go_sem, Nat.reduceEqDiff, ↓reduceIte, reduceCtorEq, Nat.reduceAdd, Nat.reduceMul, Int.reduceToNat, List.reduceReplicate, Nat.reduceLeDiff, Nat.reduceLT, Int.reduceLT, Int.reduceLE, Int.reduceEq]) | (with_reducible refine giv_intro fun _h => ?_) | (with_reducible refine alt_intro ?_ (fun _h => ?_)) | ((first | with_reducible refine br_dec (fun _h => ?_) (fun _h => ?_) | with_reducible refine br_ndec (fun _h => ?_) (fun _h => ?_)) <;> (first | (exfalso; omega) | simp only [decide_eq_false _h] | simp only [decide_eq_true _h] | skip)) | ((first | with_reducible refine br_not (fun _h => ?_) (fun _h => ?_) | with_reducible refine br_var (fun _h => ?_) (fun _h => ?_)) <;> (try simp only [_h])) | ((with_reducible apply call (c2)); (focus (simp (disch := omega) only [go_sem, Nat.reduceEqDiff, ↓reduceIte, reduceCtorEq, Nat.reduceAdd, Nat.reduceMul, Int.reduceToNat, List.reduceReplicate, Nat.reduceLeDiff, Nat.reduceLT, Int.reduceLT, Int.reduceLE, Int.reduceEq]; (try rfl); done))) | fail)
        (refine loopC hS [0, 10, 12] (by simp only [go_sem, Nat.reduceEqDiff, ↓reduceIte, reduceCtorEq, Nat.reduceAdd, Nat.reduceMul, Int.reduceToNat, List.reduceReplicate, Nat.reduceLeDiff, Nat.reduceLT, Int.reduceLT, Int.reduceLE, Int.reduceEq]; try rfl) (fun (⟨m, y, dn⟩ : Nat × Int × List Int) => [(2, intA y), (11, own S 1 dn)]) (fun (⟨m, y, dn⟩ : Nat × Int × List Int) => [rowO 3 up, rowO 3 dn]) (fun (⟨m, y, dn⟩ : Nat × Int × List Int) => 0 ≤ y ∧ y < l.length ∧ Hg l y x ∧ it l m y < 0 ∧ dn.length + m ≤ l.length + 1 ∧ wayD l x k = dn.reverse ++ downF l x m y) (fun (⟨m, y, dn⟩ : Nat × Int × List Int) => m) ((l.length + 1, k, [])) ?h08 ?hn8 ?rd8; case hn8 => (intro s; first | rfl | (rcases s with ⟨_, _⟩; rfl) | (rcases s with ⟨_, _, _⟩; rfl) | (rcases s with ⟨_, _, _, _⟩; rfl) | (rcases s with ⟨_, _, _, _, _⟩; rfl)))
        · exact ⟨⟨by omega, by omega, hkx, it_mono l (ends_len v2 v3 (by omega)) (by omega), by simp, rfl⟩, by simp (disch := omega) only [go_sem, Nat.reduceEqDiff, ↓reduceIte, reduceCtorEq, Nat.reduceAdd, Nat.reduceMul, Int.reduceToNat, List.reduceReplicate, Nat.reduceLeDiff, Nat.reduceLT, Int.reduceLT, Int.reduceLE, Int.reduceEq], by simp (disch := omega) only [go_sem, Nat.reduceEqDiff, ↓reduceIte, reduceCtorEq, Nat.reduceAdd, Nat.reduceMul, Int.reduceToNat, List.reduceReplicate, Nat.reduceLeDiff, Nat.reduceLT, Int.reduceLT, Int.reduceLE, Int.reduceEq]⟩
        rintro ⟨m, y, dn⟩ ⟨hy0, hy1, hyx, hy2, hm, hJ⟩
        replace hy0 : 0 ≤ y := hy0
        replace hy1 : y < l.length := hy1
        replace hyx : Hg l y x := hyx
        replace hy2 : it l m y < 0 := hy2
        replace hm : dn.length + m ≤ l.length + 1 := hm
        replace hJ : wayD l x k = dn.reverse ++ downF l x m y := hJ
        by_cases hy : y = x
        · subst hy
          rw [downF_stop, List.append_nil] at hJ
          rw [hJ, List.reverse_reverse]
          have lu : (up ++ [y]).length = up.length + 1 := by simp
          have lv : (up ++ [y] ++ dn).length = up.length + 1 + dn.length := by simp; omega
          have lw : up ++ [y] ++ dn = up ++ y :: dn := by simp
          repeat' (first | (with_reducible refine in_seq ?_) | (with_reducible refine in_reg ?_) | (with_reducible refine in_block ?_) | (with_reducible refine in_cond ?_) | (with_reducible refine in_ret ?_) | (with_reducible refine in_skip ?_) | (simp (disch := omega) only [go_sem, Nat.reduceEqDiff, ↓reduceIte, reduceCtorEq, Nat.reduceAdd, Nat.reduceMul, Int.reduceToNat, List.reduceReplicate, Nat.reduceLeDiff, Nat.reduceLT, Int.reduceLT, Int.reduceLE, Int.reduceEq, List.take_length, lu, lv]) | (with_reducible refine giv_intro fun _h => ?_) | (with_reducible refine alt_intro ?_ (fun _h => ?_)) | ((first | with_reducible refine br_dec (fun _h => ?_) (fun _h => ?_) | with_reducible refine br_ndec (fun _h => ?_) (fun _h => ?_)) <;> (first | (exfalso; omega) | simp only [decide_eq_false _h] | simp only [decide_eq_true _h] | skip)) | ((first | with_reducible refine br_not (fun _h => ?_) (fun _h => ?_) | with_reducible refine br_var (fun _h => ?_) (fun _h => ?_)) <;> (try simp only [_h])) | fail)
          rw [lw]
        · have hh := hd_nth (l := l) hy0
          cases m with
          | zero => exact absurd hy2 (by show ¬y < 0; omega)
          | succ m =>
            rw [downF, if_neg hy] at hJ
            have hst := (hg_step hy0 hy).1 hyx
            have hlt := hd_lt v2 hy1
            have h0 : 0 ≤ hd l y := by
              rcases Int.lt_or_le (hd l y) 0 with h | h
              · exact absurd hst (hg_neg h)
              · exact h
            refine swp_seq (in_seq ?_)
            repeat' (first | (simp (disch := omega) only [go_sem, Nat.reduceEqDiff, ↓reduceIte, reduceCtorEq, Nat.reduceAdd, Nat.reduceMul, Int.reduceToNat, List.reduceReplicate, Nat.reduceLeDiff, Nat.reduceLT, Int.reduceLT, Int.reduceLE, Int.reduceEq]) | (with_reducible refine giv_intro fun _h => ?_) | (with_reducible refine alt_intro ?_ (fun _h => ?_)) | ((first | with_reducible refine br_dec (fun _h => ?_) (fun _h => ?_) | with_reducible refine br_ndec (fun _h => ?_) (fun _h => ?_)) <;> (first | (exfalso; omega) | simp only [decide_eq_false _h] | simp only [decide_eq_true _h] | skip)) | ((first | with_reducible refine br_not (fun _h => ?_) (fun _h => ?_) | with_reducible refine br_var (fun _h => ?_) (fun _h => ?_)) <;> (try simp only [_h])) | fail)
            refine swp_block (swp_seq (in_reg ?_))
            repeat' (first | (simp (disch := omega) only [go_sem, Nat.reduceEqDiff, ↓reduceIte, reduceCtorEq, Nat.reduceAdd, Nat.reduceMul, Int.reduceToNat, List.reduceReplicate, Nat.reduceLeDiff, Nat.reduceLT, Int.reduceLT, Int.reduceLE, Int.reduceEq, List.take_length]) | (with_reducible refine giv_intro fun _h => ?_) | (with_reducible refine alt_intro ?_ (fun _h => ?_)) | ((first | with_reducible refine br_dec (fun _h => ?_) (fun _h => ?_) | with_reducible refine br_ndec (fun _h => ?_) (fun _h => ?_)) <;> (first | (exfalso; omega) | simp only [decide_eq_false _h] | simp only [decide_eq_true _h] | skip)) | ((first | with_reducible refine br_not (fun _h => ?_) (fun _h => ?_) | with_reducible refine br_var (fun _h => ?_) (fun _h => ?_)) <;> (try simp only [_h])) | fail)
            refine moveRow (tot := 1 + dn.length) (m := 1 + dn.length) 11 1 2 3 1 (by simp (disch := omega) only [go_sem, Nat.reduceEqDiff, ↓reduceIte, reduceCtorEq, Nat.reduceAdd, Nat.reduceMul, Int.reduceToNat, List.reduceReplicate, Nat.reduceLeDiff, Nat.reduceLT, Int.reduceLT, Int.reduceLE, Int.reduceEq]) rfl rfl (by simp) (by omega) ?_
            simp only [List.set_cons_zero, List.set_cons_succ]
            refine in_reg ?_
            repeat' (first | (with_reducible refine in_seq ?_) | (with_reducible refine in_reg ?_) | (with_reducible refine in_block ?_) | (with_reducible refine in_cond ?_) | (with_reducible refine in_ret ?_) | (with_reducible refine in_skip ?_) | (simp (disch := omega) only [go_sem, Nat.reduceEqDiff, ↓reduceIte, reduceCtorEq, Nat.reduceAdd, Nat.reduceMul, Int.reduceToNat, List.reduceReplicate, Nat.reduceLeDiff, Nat.reduceLT, Int.reduceLT, Int.reduceLE, Int.reduceEq, ← hh]) | (with_reducible refine giv_intro fun _h => ?_) | (with_reducible refine alt_intro ?_ (fun _h => ?_)) | ((first | with_reducible refine br_dec (fun _h => ?_) (fun _h => ?_) | with_reducible refine br_ndec (fun _h => ?_) (fun _h => ?_)) <;> (first | (exfalso; omega) | simp only [decide_eq_false _h] | simp only [decide_eq_true _h] | skip)) | ((first | with_reducible refine br_not (fun _h => ?_) (fun _h => ?_) | with_reducible refine br_var (fun _h => ?_) (fun _h => ?_)) <;> (try simp only [_h])) | fail)
            refine ⟨(m, hd l y, y :: dn), ?_⟩
            dsimp only
            exact ⟨⟨by omega, h0, hlt, hst, hy2, by simp; omega, by rw [hJ]; simp⟩, ⟨rfl, by simp; omega, by simp; omega⟩, rfl⟩
      · rw [show hgB l k x = false by simpa using hg] at c2
        have hh := hd_nth (l := l) (x := x) (by omega)
        cases n with
        | zero => exact absurd hx2 (by show ¬x < 0; omega)
        | succ n =>
          rw [upF, if_neg (by rw [not_or]; exact ⟨by omega, hg⟩)] at hI
          have hlt := hd_lt v2 hx1
          have hlo := hd_lo v2 hx1 (by omega)
          by_cases h5 : hd l x < 0
          · rw [upF_stop (.inl h5)] at hI
            rw [hI, if_pos h5]
            repeat' (first | (with_reducible refine in_seq ?_) | (with_reducible refine in_reg ?_) | (with_reducible refine in_block ?_) | (with_reducible refine in_cond ?_) | (with_reducible refine in_ret ?_) | (with_reducible refine in_skip ?_) | (simp (disch := omega) only [go_sem, Nat.reduceEqDiff, ↓reduceIte, reduceCtorEq, Nat.reduceAdd, Nat.reduceMul, Int.reduceToNat, List.reduceReplicate, Nat.reduceLeDiff, Nat.reduceLT, Int.reduceLT, Int.reduceLE, Int.reduceEq, ← hh]) | (with_reducible refine giv_intro fun _h => ?_) | (with_reducible refine alt_intro ?_ (fun _h => ?_)) | ((first | with_reducible refine br_dec (fun _h => ?_) (fun _h => ?_) | with_reducible refine br_ndec (fun _h => ?_) (fun _h => ?_)) <;> (first | (exfalso; omega) | simp only [decide_eq_false _h] | simp only [decide_eq_true _h] | skip)) | ((first | with_reducible refine br_not (fun _h => ?_) (fun _h => ?_) | with_reducible refine br_var (fun _h => ?_) (fun _h => ?_)) <;> (try simp only [_h])) | ((with_reducible apply call (c2)); (focus (simp (disch := omega) only [go_sem, Nat.reduceEqDiff, ↓reduceIte, reduceCtorEq, Nat.reduceAdd, Nat.reduceMul, Int.reduceToNat, List.reduceReplicate, Nat.reduceLeDiff, Nat.reduceLT, Int.reduceLT, Int.reduceLE, Int.reduceEq, ← hh]; (try rfl); done))) | fail)
            all_goals rfl
          · repeat' (first | (with_reducible refine in_seq ?_) | (with_reducible refine in_reg ?_) | (with_reducible refine in_block ?_) | (with_reducible refine in_cond ?_) | (with_reducible refine in_ret ?_) | (with_reducible refine in_skip ?_) | (simp (disch := omega) only [go_sem, Nat.reduceEqDiff, ↓reduceIte, reduceCtorEq, Nat.reduceAdd, Nat.reduceMul, Int.reduceToNat, List.reduceReplicate, Nat.reduceLeDiff, Nat.reduceLT, Int.reduceLT, Int.reduceLE, Int.reduceEq, ← hh]) | (with_reducible refine giv_intro fun _h => ?_) | (with_reducible refine alt_intro ?_ (fun _h => ?_)) | ((first | with_reducible refine br_dec (fun _h => ?_) (fun _h => ?_) | with_reducible refine br_ndec (fun _h => ?_) (fun _h => ?_)) <;> (first | (exfalso; omega) | simp only [decide_eq_false _h] | simp only [decide_eq_true _h] | skip)) | ((first | with_reducible refine br_not (fun _h => ?_) (fun _h => ?_) | with_reducible refine br_var (fun _h => ?_) (fun _h => ?_)) <;> (try simp only [_h])) | ((with_reducible apply call (c2)); (focus (simp (disch := omega) only [go_sem, Nat.reduceEqDiff, ↓reduceIte, reduceCtorEq, Nat.reduceAdd, Nat.reduceMul, Int.reduceToNat, List.reduceReplicate, Nat.reduceLeDiff, Nat.reduceLT, Int.reduceLT, Int.reduceLE, Int.reduceEq, ← hh]; (try rfl); done))) | fail)
            refine ⟨(n, hd l x, up ++ [x]), ?_⟩
            dsimp only
            exact ⟨⟨by omega, by omega, hlt, hx2, by simp; omega, by rw [hI]; simp⟩, ⟨rfl, by simp⟩, rfl⟩
  · rw [pathT, if_pos h1]
    (refine fn_look s32_ok (by simp) (by intro k; simp only [go_sem, Nat.reduceEqDiff, ↓reduceIte, reduceCtorEq, Nat.reduceAdd, Nat.reduceMul, Int.reduceToNat, List.reduceReplicate, Nat.reduceLeDiff, Nat.reduceLT, Int.reduceLT, Int.reduceLE, Int.reduceEq]) fun S hS => cwp_sound _ _ _ _ ?_; simp (disch := omega) only [s32, go_sem, Nat.reduceEqDiff, ↓reduceIte, reduceCtorEq, Nat.reduceAdd, Nat.reduceMul, Int.reduceToNat, List.reduceReplicate, Nat.reduceLeDiff, Nat.reduceLT, Int.reduceLT, Int.reduceLE, Int.reduceEq])
    repeat' (first | (with_reducible refine in_seq ?_) | (with_reducible refine in_reg ?_) | (with_reducible refine in_block ?_) | (with_reducible refine in_cond ?_) | (with_reducible refine in_ret ?_) | (with_reducible refine in_skip ?_) | (simp (disch := omega) only [go_sem, Nat.reduceEqDiff, ↓reduceIte, reduceCtorEq, Nat.reduceAdd, Nat.reduceMul, Int.reduceToNat, List.reduceReplicate, Nat.reduceLeDiff, Nat.reduceLT, Int.reduceLT, Int.reduceLE, Int.reduceEq]) | (with_reducible refine giv_intro fun _h => ?_) | (with_reducible refine alt_intro ?_ (fun _h => ?_)) | ((first | with_reducible refine br_dec (fun _h => ?_) (fun _h => ?_) | with_reducible refine br_ndec (fun _h => ?_) (fun _h => ?_)) <;> (first | (exfalso; omega) | simp only [decide_eq_false _h] | simp only [decide_eq_true _h] | skip)) | ((first | with_reducible refine br_not (fun _h => ?_) (fun _h => ?_) | with_reducible refine br_var (fun _h => ?_) (fun _h => ?_)) <;> (try simp only [_h])) | ((with_reducible apply call (c1)); (focus (simp (disch := omega) only [go_sem, Nat.reduceEqDiff, ↓reduceIte, reduceCtorEq, Nat.reduceAdd, Nat.reduceMul, Int.reduceToNat, List.reduceReplicate, Nat.reduceLeDiff, Nat.reduceLT, Int.reduceLT, Int.reduceLE, Int.reduceEq]; (try rfl); done))) | fail)
    all_goals rfl
/-- ablaut/ablautlaw21.DependPaths: 3 parameters, 0 captured -/
def s8 : SC := .seq (.reg [⟨(some 6), .mv (.c (.bool false)), none⟩])
  (.seq (.seq (.reg [⟨(some 13), .mv (.t 0), none⟩,
       ⟨(some 14), .call (.f 12) [(.t 13)], none⟩])
    (.cond (.t 14) (.seq (.reg [⟨(some 15), .call (.f 14) [], none⟩,
         ⟨(some 6), .mv (.t 15), none⟩])
      (.ret)) (.skip)))
   (.seq (.reg [⟨(some 17), .mv (.t 0), none⟩,
       ⟨(some 18), .mv (.t 1), none⟩,
       ⟨(some 19), .mv (.t 2), none⟩,
       ⟨(some 20), .call (.f 31) [(.t 17), (.t 18), (.t 19)], none⟩,
       ⟨(some 16), .mv (.t 20), none⟩,
       ⟨(some 21), .ext (.t 16) 0, none⟩,
       ⟨(some 22), .ext (.t 16) 1, none⟩,
       ⟨(some 23), .ext (.t 16) 2, none⟩,
       ⟨(some 7), .mv (.t 21), none⟩,
       ⟨(some 8), .mv (.t 22), none⟩,
       ⟨(some 9), .mv (.t 23), none⟩])
    (.seq (.reg [⟨(some 25), .mv (.t 0), none⟩,
        ⟨(some 26), .mv (.t 1), none⟩,
        ⟨(some 27), .mv (.t 2), none⟩,
        ⟨(some 28), .call (.f 32) [(.t 25), (.t 26), (.t 27)], none⟩,
        ⟨(some 24), .mv (.t 28), none⟩,
        ⟨(some 29), .ext (.t 24) 0, none⟩,
        ⟨(some 30), .ext (.t 24) 1, none⟩,
        ⟨(some 31), .ext (.t 24) 2, none⟩,
        ⟨(some 10), .mv (.t 29), none⟩,
        ⟨(some 11), .mv (.t 30), none⟩,
        ⟨(some 12), .mv (.t 31), none⟩])
     (.seq (.reg [⟨(some 32), .mv (.t 7), none⟩,
         ⟨(some 33), .mv (.t 10), none⟩,
         ⟨(some 34), .call (.f 23) [(.t 32), (.t 33)], none⟩,
         ⟨(some 35), .mv (.t 34), none⟩,
         ⟨(some 36), .mv (.t 8), some (35, true)⟩,
         ⟨(some 37), .mv (.t 11), some (35, true)⟩,
         ⟨(some 38), .eq false .bool (.t 36) (.t 37), some (35, true)⟩,
         ⟨(some 39), .pick (.t 35) (.t 38) (.c (.bool false)), none⟩,
         ⟨(some 40), .mv (.t 39), none⟩,
         ⟨(some 41), .mv (.t 9), some (40, true)⟩,
         ⟨(some 42), .mv (.t 12), some (40, true)⟩,
         ⟨(some 43), .bin .eql (.t 41) (.t 42), some (40, true)⟩,
         ⟨(some 44), .pick (.t 40) (.t 43) (.c (.bool false)), none⟩,
         ⟨(some 45), .mv (.t 44), none⟩,
         ⟨(some 46), .call (.f 14) [], some (45, true)⟩,
         ⟨(some 47), .pick (.t 45) (.t 46) (.c (.bool false)), none⟩,
         ⟨(some 6), .mv (.t 47), none⟩])
      (.ret)))))
theorem s8_ok : lookF Try.prog 8 = some (s8, 48, [.tmp 6]) := by kernel_rfl
theorem DependPaths_ok (l : List Hung) (i k : Int) (hl : TH l) : Fn P 8 [sl l, intA i, intA k] (boolA true) := by
  by_cases h1 : overB l = false
  · have hs := over_sm hl h1
    have c1 := path_ok l hs i k
    have c2 := rPath_ok l hs i k
    have k0 := over_ok l
    rw [h1] at k0
    generalize pathT l i k = t at *
    (refine fn_look s8_ok (by simp) (by intro k; simp only [go_sem, Nat.reduceEqDiff, ↓reduceIte, reduceCtorEq, Nat.reduceAdd, Nat.reduceMul, Int.reduceToNat, List.reduceReplicate, Nat.reduceLeDiff, Nat.reduceLT, Int.reduceLT, Int.reduceLE, Int.reduceEq]) fun S hS => cwp_sound _ _ _ _ ?_; simp (disch := omega) only [s8, go_sem, Nat.reduceEqDiff, ↓reduceIte, reduceCtorEq, Nat.reduceAdd, Nat.reduceMul, Int.reduceToNat, List.reduceReplicate, Nat.reduceLeDiff, Nat.reduceLT, Int.reduceLT, Int.reduceLE, Int.reduceEq])
    repeat' (first | (with_reducible refine in_seq ?_) | (with_reducible refine in_reg ?_) | (with_reducible refine in_block ?_) | (with_reducible refine in_cond ?_) | (with_reducible refine in_ret ?_) | (with_reducible refine in_skip ?_) | (simp (disch := omega) only [go_sem, Nat.reduceEqDiff, ↓reduceIte, reduceCtorEq, Nat.reduceAdd, Nat.reduceMul, Int.reduceToNat, List.reduceReplicate, Nat.reduceLeDiff, Nat.reduceLT, Int.reduceLT, Int.reduceLE, Int.reduceEq]) | (with_reducible refine giv_intro fun _h => ?_) | (with_reducible refine alt_intro ?_ (fun _h => ?_)) | ((first | with_reducible refine br_dec (fun _h => ?_) (fun _h => ?_) | with_reducible refine br_ndec (fun _h => ?_) (fun _h => ?_)) <;> (first | (exfalso; omega) | simp only [decide_eq_false _h] | simp only [decide_eq_true _h] | skip)) | ((first | with_reducible refine br_not (fun _h => ?_) (fun _h => ?_) | with_reducible refine br_var (fun _h => ?_) (fun _h => ?_)) <;> (try simp only [_h])) | ((with_reducible apply call (k0)); (focus (simp (disch := omega) only [go_sem, Nat.reduceEqDiff, ↓reduceIte, reduceCtorEq, Nat.reduceAdd, Nat.reduceMul, Int.reduceToNat, List.reduceReplicate, Nat.reduceLeDiff, Nat.reduceLT, Int.reduceLT, Int.reduceLE, Int.reduceEq]; (try rfl); done))) | ((with_reducible apply call (c1)); (focus (simp (disch := omega) only [go_sem, Nat.reduceEqDiff, ↓reduceIte, reduceCtorEq, Nat.reduceAdd, Nat.reduceMul, Int.reduceToNat, List.reduceReplicate, Nat.reduceLeDiff, Nat.reduceLT, Int.reduceLT, Int.reduceLE, Int.reduceEq]; (try rfl); done))) | ((with_reducible apply call (c2)); (focus (simp (disch := omega) only [go_sem, Nat.reduceEqDiff, ↓reduceIte, reduceCtorEq, Nat.reduceAdd, Nat.reduceMul, Int.reduceToNat, List.reduceReplicate, Nat.reduceLeDiff, Nat.reduceLT, Int.reduceLT, Int.reduceLE, Int.reduceEq]; (try rfl); done))) | ((with_reducible apply call (sameInts_ok _ _)); (focus (simp (disch := omega) only [go_sem, Nat.reduceEqDiff, ↓reduceIte, reduceCtorEq, Nat.reduceAdd, Nat.reduceMul, Int.reduceToNat, List.reduceReplicate, Nat.reduceLeDiff, Nat.reduceLT, Int.reduceLT, Int.reduceLE, Int.reduceEq]; (try rfl); done))) | ((with_reducible apply call (known_ok)); (focus (simp (disch := omega) only [go_sem, Nat.reduceEqDiff, ↓reduceIte, reduceCtorEq, Nat.reduceAdd, Nat.reduceMul, Int.reduceToNat, List.reduceReplicate, Nat.reduceLeDiff, Nat.reduceLT, Int.reduceLT, Int.reduceLE, Int.reduceEq]; (try rfl); done))) | fail)
  · have k0 := over_ok l
    rw [show overB l = true by simpa using h1] at k0
    (refine fn_look s8_ok (by simp) (by intro k; simp only [go_sem, Nat.reduceEqDiff, ↓reduceIte, reduceCtorEq, Nat.reduceAdd, Nat.reduceMul, Int.reduceToNat, List.reduceReplicate, Nat.reduceLeDiff, Nat.reduceLT, Int.reduceLT, Int.reduceLE, Int.reduceEq]) fun S hS => cwp_sound _ _ _ _ ?_; simp (disch := omega) only [s8, go_sem, Nat.reduceEqDiff, ↓reduceIte, reduceCtorEq, Nat.reduceAdd, Nat.reduceMul, Int.reduceToNat, List.reduceReplicate, Nat.reduceLeDiff, Nat.reduceLT, Int.reduceLT, Int.reduceLE, Int.reduceEq])
    repeat' (first | (with_reducible refine in_seq ?_) | (with_reducible refine in_reg ?_) | (with_reducible refine in_block ?_) | (with_reducible refine in_cond ?_) | (with_reducible refine in_ret ?_) | (with_reducible refine in_skip ?_) | (simp (disch := omega) only [go_sem, Nat.reduceEqDiff, ↓reduceIte, reduceCtorEq, Nat.reduceAdd, Nat.reduceMul, Int.reduceToNat, List.reduceReplicate, Nat.reduceLeDiff, Nat.reduceLT, Int.reduceLT, Int.reduceLE, Int.reduceEq]) | (with_reducible refine giv_intro fun _h => ?_) | (with_reducible refine alt_intro ?_ (fun _h => ?_)) | ((first | with_reducible refine br_dec (fun _h => ?_) (fun _h => ?_) | with_reducible refine br_ndec (fun _h => ?_) (fun _h => ?_)) <;> (first | (exfalso; omega) | simp only [decide_eq_false _h] | simp only [decide_eq_true _h] | skip)) | ((first | with_reducible refine br_not (fun _h => ?_) (fun _h => ?_) | with_reducible refine br_var (fun _h => ?_) (fun _h => ?_)) <;> (try simp only [_h])) | ((with_reducible apply call (k0)); (focus (simp (disch := omega) only [go_sem, Nat.reduceEqDiff, ↓reduceIte, reduceCtorEq, Nat.reduceAdd, Nat.reduceMul, Int.reduceToNat, List.reduceReplicate, Nat.reduceLeDiff, Nat.reduceLT, Int.reduceLT, Int.reduceLE, Int.reduceEq]; (try rfl); done))) | ((with_reducible apply call (known_ok)); (focus (simp (disch := omega) only [go_sem, Nat.reduceEqDiff, ↓reduceIte, reduceCtorEq, Nat.reduceAdd, Nat.reduceMul, Int.reduceToNat, List.reduceReplicate, Nat.reduceLeDiff, Nat.reduceLT, Int.reduceLT, Int.reduceLE, Int.reduceEq]; (try rfl); done))) | fail)
end Go.Proofs.Ytkedbkdbnmmkhaa.Ev

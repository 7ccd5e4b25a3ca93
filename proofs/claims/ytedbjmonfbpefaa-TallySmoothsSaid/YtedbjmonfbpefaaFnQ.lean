/- Grams: what is given. -/
import Derived.Test.YtedbjmonfbpefaaFnO
set_option linter.unusedVariables false
set_option linter.unusedSimpArgs false
namespace Go.Proofs.Ytedbjmonfbpefaa.Ev
open Go Go.Proofs

abbrev gramA (g : Gram) : AV := .agg [sl g.1, intA g.2]
def idxG (p : Gram → Bool) : Int → List Gram → Int
  | _, [] => -1
  | i, s :: l => if p s = true then i else idxG p (i + 1) l
/-- slices.IndexFunc[[]ablaut/api.Gram,ablaut/api.Gram]: 2 parameters, 0 captured -/
def s119 : SC := .seq (.reg [⟨(some 4), .mv (.c (.int .i64 0)), none⟩])
  (.seq (.seq (.reg [⟨(some 6), .mv (.t 0), none⟩,
       ⟨(some 7), .lenL (.t 6), none⟩,
       ⟨(some 8), .mv (.c (.int .i64 0)), none⟩])
    (.block 0 (.loop (.seq (.reg [⟨(some 9), .bin .lss (.t 8) (.t 7), none⟩])
       (.seq (.cond (.t 9) (.skip) (.exit 0))
        (.seq (.block 1 (.seq (.reg [⟨(some 10), .mv (.t 8), none⟩,
              ⟨(some 5), .mv (.t 10), none⟩])
           (.seq (.reg [⟨(some 11), .mv (.t 1), none⟩,
               ⟨(some 12), .mv (.t 0), none⟩,
               ⟨(some 13), .mv (.t 5), none⟩,
               ⟨(some 14), .iaddr 2 (.t 12) (.t 13), none⟩,
               ⟨(some 15), .load (some 2) (.t 14), none⟩,
               ⟨(some 16), .call (.t 11) [(.t 15)], none⟩])
            (.cond (.t 16) (.seq (.reg [⟨(some 17), .mv (.t 5), none⟩,
                 ⟨(some 4), .mv (.t 17), none⟩])
              (.ret)) (.skip)))))
         (.reg [⟨(some 18), .bin .add (.t 8) (.c (.int .i64 1)), none⟩,
            ⟨(some 8), .mv (.t 18), none⟩])))))))
   (.seq (.reg [⟨(some 4), .mv (.c (.int .i64 (-1))), none⟩])
    (.ret)))
theorem s119_ok : lookF Try.prog 119 = some (s119, 19, [.tmp 4]) := by kernel_rfl
theorem indexFuncG_ok (p : Gram → Bool) (f : Nat) (l : List Gram) (hf : ∀ g ∈ l, Fn P f [gramA g] (boolA (p g))) (hl : l.length ≤ 8796093022208) : Fn P 119 [sl l, .clo f []] (intA (idxG p 0 l)) := by
  (refine fn_look s119_ok (by simp) (by intro k; simp only [go_sem, Nat.reduceEqDiff, ↓reduceIte, reduceCtorEq, Nat.reduceAdd, Nat.reduceMul, Int.reduceToNat, List.reduceReplicate, Nat.reduceLeDiff, Nat.reduceLT, Int.reduceLT, Int.reduceLE, Int.reduceEq]) fun S hS => cwp_sound _ _ _ _ ?_; simp (disch := omega) only [s119, go_sem, Nat.reduceEqDiff, ↓reduceIte, reduceCtorEq, Nat.reduceAdd, Nat.reduceMul, Int.reduceToNat, List.reduceReplicate, Nat.reduceLeDiff, Nat.reduceLT, Int.reduceLT, Int.reduceLE, Int.reduceEq])
  repeat' (first | (with_reducible refine in_seq ?_) | (with_reducible refine in_reg ?_) | (with_reducible refine in_block ?_) | (with_reducible refine in_cond ?_) | (with_reducible refine in_ret ?_) | (with_reducible refine in_skip ?_) | (simp (disch := omega) only [go_sem, Nat.reduceEqDiff, ↓reduceIte, reduceCtorEq, Nat.reduceAdd, Nat.reduceMul, Int.reduceToNat, List.reduceReplicate, Nat.reduceLeDiff, Nat.reduceLT, Int.reduceLT, Int.reduceLE, Int.reduceEq]) | (with_reducible refine giv_intro fun _h => ?_) | (with_reducible refine alt_intro ?_ (fun _h => ?_)) | ((first | with_reducible refine br_dec (fun _h => ?_) (fun _h => ?_) | with_reducible refine br_ndec (fun _h => ?_) (fun _h => ?_)) <;> (first | (exfalso; omega) | simp only [decide_eq_false _h] | simp only [decide_eq_true _h] | skip)) | ((first | with_reducible refine br_not (fun _h => ?_) (fun _h => ?_) | with_reducible refine br_var (fun _h => ?_) (fun _h => ?_)) <;> (try simp only [_h])) | fail)
  (refine loopC hS [0, 1, 7] (by simp only [go_sem, Nat.reduceEqDiff, ↓reduceIte, reduceCtorEq, Nat.reduceAdd, Nat.reduceMul, Int.reduceToNat, List.reduceReplicate, Nat.reduceLeDiff, Nat.reduceLT, Int.reduceLT, Int.reduceLE, Int.reduceEq]; try rfl) (fun (i : Nat) => [(8, intA i)]) (fun (i : Nat) => []) (fun (i : Nat) => i ≤ l.length ∧ idxG p 0 l = idxG p i (l.drop i)) (fun (i : Nat) => l.length - i) (0) ?h01 ?hn1 ?rd1; case hn1 => (intro s; first | rfl | (rcases s with ⟨_, _⟩; rfl) | (rcases s with ⟨_, _, _⟩; rfl) | (rcases s with ⟨_, _, _, _⟩; rfl) | (rcases s with ⟨_, _, _, _, _⟩; rfl)))
  · simp (disch := omega) only [go_sem, Nat.reduceEqDiff, ↓reduceIte, reduceCtorEq, Nat.reduceAdd, Nat.reduceMul, Int.reduceToNat, List.reduceReplicate, Nat.reduceLeDiff, Nat.reduceLT, Int.reduceLT, Int.reduceLE, Int.reduceEq]; exact Nat.zero_le _
  · rintro i ⟨h1, h2⟩
    replace h1 : i ≤ l.length := h1
    replace h2 : idxG p 0 l = idxG p i (l.drop i) := h2
    by_cases hi : i < l.length
    · rw [nth_drop hi] at h2
      have hc := hf (nth l i) (nth_mem hi)
      repeat' (first | (with_reducible refine in_seq ?_) | (with_reducible refine in_reg ?_) | (with_reducible refine in_block ?_) | (with_reducible refine in_cond ?_) | (with_reducible refine in_ret ?_) | (with_reducible refine in_skip ?_) | (simp (disch := omega) only [go_sem, Nat.reduceEqDiff, ↓reduceIte, reduceCtorEq, Nat.reduceAdd, Nat.reduceMul, Int.reduceToNat, List.reduceReplicate, Nat.reduceLeDiff, Nat.reduceLT, Int.reduceLT, Int.reduceLE, Int.reduceEq]) | (with_reducible refine giv_intro fun _h => ?_) | (with_reducible refine alt_intro ?_ (fun _h => ?_)) | ((first | with_reducible refine br_dec (fun _h => ?_) (fun _h => ?_) | with_reducible refine br_ndec (fun _h => ?_) (fun _h => ?_)) <;> (first | (exfalso; omega) | simp only [decide_eq_false _h] | simp only [decide_eq_true _h] | skip)) | ((first | with_reducible refine br_not (fun _h => ?_) (fun _h => ?_) | with_reducible refine br_var (fun _h => ?_) (fun _h => ?_)) <;> (try simp only [_h])) | ((with_reducible apply call (hc)); (focus (simp (disch := omega) only [go_sem, Nat.reduceEqDiff, ↓reduceIte, reduceCtorEq, Nat.reduceAdd, Nat.reduceMul, Int.reduceToNat, List.reduceReplicate, Nat.reduceLeDiff, Nat.reduceLT, Int.reduceLT, Int.reduceLE, Int.reduceEq]; (try rfl); done))) | fail)
      · rw [h2, idxG, if_pos _h]
      · rw [idxG, if_neg (by rw [_h]; decide)] at h2
        exact ⟨i + 1, ⟨by omega, by omega, h2⟩, rfl⟩
    · rw [List.drop_of_length_le (by omega)] at h2
      repeat' (first | (with_reducible refine in_seq ?_) | (with_reducible refine in_reg ?_) | (with_reducible refine in_block ?_) | (with_reducible refine in_cond ?_) | (with_reducible refine in_ret ?_) | (with_reducible refine in_skip ?_) | (simp (disch := omega) only [go_sem, Nat.reduceEqDiff, ↓reduceIte, reduceCtorEq, Nat.reduceAdd, Nat.reduceMul, Int.reduceToNat, List.reduceReplicate, Nat.reduceLeDiff, Nat.reduceLT, Int.reduceLT, Int.reduceLE, Int.reduceEq]) | (with_reducible refine giv_intro fun _h => ?_) | (with_reducible refine alt_intro ?_ (fun _h => ?_)) | ((first | with_reducible refine br_dec (fun _h => ?_) (fun _h => ?_) | with_reducible refine br_ndec (fun _h => ?_) (fun _h => ?_)) <;> (first | (exfalso; omega) | simp only [decide_eq_false _h] | simp only [decide_eq_true _h] | skip)) | ((first | with_reducible refine br_not (fun _h => ?_) (fun _h => ?_) | with_reducible refine br_var (fun _h => ?_) (fun _h => ?_)) <;> (try simp only [_h])) | fail)
      exact h2.symm

theorem idxG_any (p : Gram → Bool) : ∀ (l : List Gram) (i : Int), 0 ≤ i → (0 ≤ idxG p i l ↔ l.any p = true) ∧ -1 ≤ idxG p i l
  | [], i, h => by simp [idxG]
  | s :: l, i, h => by
    have := idxG_any p l (i + 1) (by omega)
    rw [idxG]
    by_cases hp : p s = true
    · rw [if_pos hp]; simp [hp]; omega
    · rw [if_neg hp]; simp [hp]; simpa using this
/-- slices.ContainsFunc[[]ablaut/api.Gram,ablaut/api.Gram]: 2 parameters, 0 captured -/
def s95 : SC := .seq (.reg [⟨(some 4), .mv (.c (.bool false)), none⟩])
  (.seq (.reg [⟨(some 5), .mv (.t 0), none⟩,
      ⟨(some 6), .mv (.t 1), none⟩,
      ⟨(some 7), .call (.f 119) [(.t 5), (.t 6)], none⟩,
      ⟨(some 8), .bin .geq (.t 7) (.c (.int .i64 0)), none⟩,
      ⟨(some 4), .mv (.t 8), none⟩])
   (.ret))
theorem s95_ok : lookF Try.prog 95 = some (s95, 9, [.tmp 4]) := by kernel_rfl
theorem containsFuncG_ok (p : Gram → Bool) (f : Nat) (l : List Gram) (hf : ∀ g ∈ l, Fn P f [gramA g] (boolA (p g))) (hl : l.length ≤ 8796093022208) : Fn P 95 [sl l, .clo f []] (boolA (l.any p)) := by
  have c1 := indexFuncG_ok p f l hf hl
  have h := (idxG_any p l 0 (by omega)).1
  (refine fn_look s95_ok (by simp) (by intro k; simp only [go_sem, Nat.reduceEqDiff, ↓reduceIte, reduceCtorEq, Nat.reduceAdd, Nat.reduceMul, Int.reduceToNat, List.reduceReplicate, Nat.reduceLeDiff, Nat.reduceLT, Int.reduceLT, Int.reduceLE, Int.reduceEq]) fun S hS => cwp_sound _ _ _ _ ?_; simp (disch := omega) only [s95, go_sem, Nat.reduceEqDiff, ↓reduceIte, reduceCtorEq, Nat.reduceAdd, Nat.reduceMul, Int.reduceToNat, List.reduceReplicate, Nat.reduceLeDiff, Nat.reduceLT, Int.reduceLT, Int.reduceLE, Int.reduceEq])
  repeat' (first | (with_reducible refine in_seq ?_) | (with_reducible refine in_reg ?_) | (with_reducible refine in_block ?_) | (with_reducible refine in_cond ?_) | (with_reducible refine in_ret ?_) | (with_reducible refine in_skip ?_) | (simp (disch := omega) only [go_sem, Nat.reduceEqDiff, ↓reduceIte, reduceCtorEq, Nat.reduceAdd, Nat.reduceMul, Int.reduceToNat, List.reduceReplicate, Nat.reduceLeDiff, Nat.reduceLT, Int.reduceLT, Int.reduceLE, Int.reduceEq]) | (with_reducible refine giv_intro fun _h => ?_) | (with_reducible refine alt_intro ?_ (fun _h => ?_)) | ((first | with_reducible refine br_dec (fun _h => ?_) (fun _h => ?_) | with_reducible refine br_ndec (fun _h => ?_) (fun _h => ?_)) <;> (first | (exfalso; omega) | simp only [decide_eq_false _h] | simp only [decide_eq_true _h] | skip)) | ((first | with_reducible refine br_not (fun _h => ?_) (fun _h => ?_) | with_reducible refine br_var (fun _h => ?_) (fun _h => ?_)) <;> (try simp only [_h])) | ((with_reducible apply call (c1)); (focus (simp (disch := omega) only [go_sem, Nat.reduceEqDiff, ↓reduceIte, reduceCtorEq, Nat.reduceAdd, Nat.reduceMul, Int.reduceToNat, List.reduceReplicate, Nat.reduceLeDiff, Nat.reduceLT, Int.reduceLT, Int.reduceLE, Int.reduceEq]; (try rfl); done))) | fail)
  rw [Bool.eq_iff_iff, decide_eq_true_iff]; exact h
/-- ablaut/tally.grams$1: 1 parameters, 0 captured -/
def s109 : SC := .seq (.reg [⟨(some 1), .box 89 2 (.t 0), none⟩,
     ⟨(some 2), .mv (.c (.bool false)), none⟩])
  (.seq (.reg [⟨(some 3), .faddr 0 (.t 1), none⟩,
      ⟨(some 4), .load none (.t 3), none⟩,
      ⟨(some 5), .call (.f 85) [(.t 4), (.f 86)], none⟩,
      ⟨(some 2), .mv (.t 5), none⟩])
   (.ret))
theorem s109_ok : lookF Try.prog 109 = some (s109, 6, [.tmp 2]) := by kernel_rfl
theorem gramLong_ok (g : Gram) (hl : g.1.length ≤ 8796093022208) : Fn P 109 [gramA g] (boolA (anyLong g.1)) := by
  have c1 := containsFunc_ok (fun s => decide (400 < s.size)) 86 isLong_ok g.1 hl
  (refine fn_look s109_ok (by simp) (by intro k; simp only [go_sem, Nat.reduceEqDiff, ↓reduceIte, reduceCtorEq, Nat.reduceAdd, Nat.reduceMul, Int.reduceToNat, List.reduceReplicate, Nat.reduceLeDiff, Nat.reduceLT, Int.reduceLT, Int.reduceLE, Int.reduceEq]) fun S hS => cwp_sound _ _ _ _ ?_; simp (disch := omega) only [s109, go_sem, Nat.reduceEqDiff, ↓reduceIte, reduceCtorEq, Nat.reduceAdd, Nat.reduceMul, Int.reduceToNat, List.reduceReplicate, Nat.reduceLeDiff, Nat.reduceLT, Int.reduceLT, Int.reduceLE, Int.reduceEq])
  repeat' (first | (with_reducible refine in_seq ?_) | (with_reducible refine in_reg ?_) | (with_reducible refine in_block ?_) | (with_reducible refine in_cond ?_) | (with_reducible refine in_ret ?_) | (with_reducible refine in_skip ?_) | (simp (disch := omega) only [go_sem, Nat.reduceEqDiff, ↓reduceIte, reduceCtorEq, Nat.reduceAdd, Nat.reduceMul, Int.reduceToNat, List.reduceReplicate, Nat.reduceLeDiff, Nat.reduceLT, Int.reduceLT, Int.reduceLE, Int.reduceEq]) | (with_reducible refine giv_intro fun _h => ?_) | (with_reducible refine alt_intro ?_ (fun _h => ?_)) | ((first | with_reducible refine br_dec (fun _h => ?_) (fun _h => ?_) | with_reducible refine br_ndec (fun _h => ?_) (fun _h => ?_)) <;> (first | (exfalso; omega) | simp only [decide_eq_false _h] | simp only [decide_eq_true _h] | skip)) | ((first | with_reducible refine br_not (fun _h => ?_) (fun _h => ?_) | with_reducible refine br_var (fun _h => ?_) (fun _h => ?_)) <;> (try simp only [_h])) | ((with_reducible apply call (c1)); (focus (simp (disch := omega) only [go_sem, Nat.reduceEqDiff, ↓reduceIte, reduceCtorEq, Nat.reduceAdd, Nat.reduceMul, Int.reduceToNat, List.reduceReplicate, Nat.reduceLeDiff, Nat.reduceLT, Int.reduceLT, Int.reduceLE, Int.reduceEq]; (try rfl); done))) | fail)
  rfl

def badG (l : List Gram) (i : Nat) : Bool :=
  decide ((nth l i).1.length < 1) || decide (4 < (nth l i).1.length) || !decide ((nth l i).1.length = (nth l 0).1.length) || decide ((nth l i).2 < 1) || decide (1000 < (nth l i).2) || (decide (0 < i) && decide (0 ≤ cmpL (nth l (i - 1)).1 (nth l i).1))
def givenE (l : List Gram) : Int := if (List.range l.length).any (badG l) = true then 1 else 0
theorem given_1 {l : List Gram} {i : Nat} (hi : i < l.length) (h : badG l i = true) : 1 = givenE l := by
  rw [givenE, if_pos]; exact List.any_eq_true.2 ⟨i, List.mem_range.2 hi, h⟩
theorem given_0 {l : List Gram} (h : ∀ j, j < l.length → badG l j = false) : 0 = givenE l := by
  rw [givenE, if_neg]; intro h2
  obtain ⟨j, h3, h4⟩ := List.any_eq_true.1 h2
  rw [h j (List.mem_range.1 h3)] at h4; cases h4
/-- ablaut/tally.grams: 1 parameters, 0 captured -/
def s68 : SC := .seq (.reg [⟨(some 2), .mv (.c (.int .i64 0)), none⟩])
  (.seq (.seq (.reg [⟨(some 5), .mv (.t 0), none⟩,
       ⟨(some 6), .lenL (.t 5), none⟩,
       ⟨(some 7), .bin .gtr (.t 6) (.c (.int .i64 200)), none⟩,
       ⟨(some 8), .mv (.t 7), none⟩,
       ⟨(some 9), .mv (.t 0), some (8, false)⟩,
       ⟨(some 10), .call (.f 95) [(.t 9), (.f 109)], some (8, false)⟩,
       ⟨(some 11), .pick (.t 8) (.c (.bool true)) (.t 10), none⟩])
    (.cond (.t 11) (.seq (.reg [⟨(some 2), .mv (.c (.int .i64 3)), none⟩])
      (.ret)) (.skip)))
   (.seq (.seq (.reg [⟨(some 12), .mv (.t 0), none⟩,
        ⟨(some 13), .lenL (.t 12), none⟩,
        ⟨(some 14), .mv (.c (.int .i64 0)), none⟩])
     (.block 0 (.loop (.seq (.reg [⟨(some 15), .bin .lss (.t 14) (.t 13), none⟩])
        (.seq (.cond (.t 15) (.skip) (.exit 0))
         (.seq (.block 1 (.seq (.reg [⟨(some 16), .mv (.t 14), none⟩,
               ⟨(some 17), .iaddr 2 (.t 12) (.t 14), none⟩,
               ⟨(some 18), .load (some 2) (.t 17), none⟩,
               ⟨(some 4), .alloc 89 2 [(.slice none 0 0), (.int .i64 0)], none⟩,
               ⟨(some 3), .mv (.t 16), none⟩,
               ⟨none, .store 2 (.t 4) (.t 18), none⟩])
            (.seq (.regD [⟨(some 19), .faddr 0 (.t 4), none⟩,
                ⟨(some 20), .load none (.t 19), none⟩,
                ⟨(some 21), .lenL (.t 20), none⟩,
                ⟨(some 22), .bin .lss (.t 21) (.c (.int .i64 1)), none⟩,
                ⟨(some 23), .mv (.t 22), none⟩,
                ⟨(some 24), .faddr 0 (.t 4), some (23, false)⟩,
                ⟨(some 25), .load none (.t 24), some (23, false)⟩,
                ⟨(some 26), .lenL (.t 25), some (23, false)⟩,
                ⟨(some 27), .bin .gtr (.t 26) (.c (.int .i64 4)), some (23, false)⟩,
                ⟨(some 28), .pick (.t 23) (.c (.bool true)) (.t 27), none⟩,
                ⟨(some 29), .mv (.t 28), none⟩,
                ⟨(some 30), .faddr 0 (.t 4), some (29, false)⟩,
                ⟨(some 31), .load none (.t 30), some (29, false)⟩,
                ⟨(some 32), .lenL (.t 31), some (29, false)⟩,
                ⟨(some 33), .mv (.t 0), some (29, false)⟩,
                ⟨(some 34), .iaddr 2 (.t 33) (.c (.int .i64 0)), some (29, false)⟩,
                ⟨(some 35), .faddr 0 (.t 34), some (29, false)⟩,
                ⟨(some 36), .load none (.t 35), some (29, false)⟩,
                ⟨(some 37), .lenL (.t 36), some (29, false)⟩,
                ⟨(some 38), .bin .neq (.t 32) (.t 37), some (29, false)⟩,
                ⟨(some 39), .pick (.t 29) (.c (.bool true)) (.t 38), none⟩,
                ⟨(some 40), .mv (.t 39), none⟩,
                ⟨(some 41), .faddr 1 (.t 4), some (40, false)⟩,
                ⟨(some 42), .load none (.t 41), some (40, false)⟩,
                ⟨(some 43), .bin .lss (.t 42) (.c (.int .i64 1)), some (40, false)⟩,
                ⟨(some 44), .pick (.t 40) (.c (.bool true)) (.t 43), none⟩,
                ⟨(some 45), .mv (.t 44), none⟩,
                ⟨(some 46), .faddr 1 (.t 4), some (45, false)⟩,
                ⟨(some 47), .load none (.t 46), some (45, false)⟩,
                ⟨(some 48), .bin .gtr (.t 47) (.c (.int .i64 1000)), some (45, false)⟩,
                ⟨(some 49), .pick (.t 45) (.c (.bool true)) (.t 48), none⟩,
                ⟨(some 50), .mv (.t 49), none⟩,
                ⟨(some 51), .mv (.t 3), some (50, false)⟩,
                ⟨(some 52), .bin .gtr (.t 51) (.c (.int .i64 0)), some (50, false)⟩,
                ⟨(some 53), .mv (.t 52), some (50, false)⟩,
                ⟨(some 54), .mv (.t 0), some (53, true)⟩,
                ⟨(some 55), .mv (.t 3), some (53, true)⟩,
                ⟨(some 56), .bin .sub (.t 55) (.c (.int .i64 1)), some (53, true)⟩,
                ⟨(some 57), .iaddr 2 (.t 54) (.t 56), some (53, true)⟩,
                ⟨(some 58), .faddr 0 (.t 57), some (53, true)⟩,
                ⟨(some 59), .load none (.t 58), some (53, true)⟩,
                ⟨(some 60), .faddr 0 (.t 4), some (53, true)⟩,
                ⟨(some 61), .load none (.t 60), some (53, true)⟩,
                ⟨(some 62), .call (.f 88) [(.t 59), (.t 61)], some (53, true)⟩,
                ⟨(some 63), .bin .geq (.t 62) (.c (.int .i64 0)), some (53, true)⟩,
                ⟨(some 64), .pick (.t 53) (.t 63) (.c (.bool false)), some (50, false)⟩,
                ⟨(some 65), .pick (.t 50) (.c (.bool true)) (.t 64), none⟩])
             (.cond (.t 65) (.seq (.reg [⟨(some 2), .mv (.c (.int .i64 1)), none⟩])
               (.ret)) (.skip)))))
          (.reg [⟨(some 66), .bin .add (.t 14) (.c (.int .i64 1)), none⟩,
             ⟨(some 14), .mv (.t 66), none⟩])))))))
    (.seq (.reg [⟨(some 2), .mv (.c (.int .i64 0)), none⟩])
     (.ret))))
theorem s68_ok : lookF Try.prog 68 = some (s68, 67, [.tmp 2]) := by kernel_rfl
set_option maxHeartbeats 1000000 in
theorem tGrams_ok (l : List Gram) (hl : l.length ≤ 200) (hs : ∀ g ∈ l, g.1.length ≤ 8796093022208) (ha : l.any (fun g => anyLong g.1) = false) : Fn P 68 [sl l] (intA (givenE l)) := by
  have c1 := containsFuncG_ok (fun g => anyLong g.1) 109 l (fun g hg => gramLong_ok g (hs g hg)) (by omega)
  rw [ha] at c1
  (refine fn_look s68_ok (by simp) (by intro k; simp only [go_sem, Nat.reduceEqDiff, ↓reduceIte, reduceCtorEq, Nat.reduceAdd, Nat.reduceMul, Int.reduceToNat, List.reduceReplicate, Nat.reduceLeDiff, Nat.reduceLT, Int.reduceLT, Int.reduceLE, Int.reduceEq]) fun S hS => cwp_sound _ _ _ _ ?_; simp (disch := omega) only [s68, go_sem, Nat.reduceEqDiff, ↓reduceIte, reduceCtorEq, Nat.reduceAdd, Nat.reduceMul, Int.reduceToNat, List.reduceReplicate, Nat.reduceLeDiff, Nat.reduceLT, Int.reduceLT, Int.reduceLE, Int.reduceEq])
  repeat' (first | (with_reducible refine in_seq ?_) | (with_reducible refine in_reg ?_) | (with_reducible refine in_block ?_) | (with_reducible refine in_cond ?_) | (with_reducible refine in_ret ?_) | (with_reducible refine in_skip ?_) | (simp (disch := omega) only [go_sem, Nat.reduceEqDiff, ↓reduceIte, reduceCtorEq, Nat.reduceAdd, Nat.reduceMul, Int.reduceToNat, List.reduceReplicate, Nat.reduceLeDiff, Nat.reduceLT, Int.reduceLT, Int.reduceLE, Int.reduceEq]) | (with_reducible refine giv_intro fun _h => ?_) | (with_reducible refine alt_intro ?_ (fun _h => ?_)) | ((first | with_reducible refine br_dec (fun _h => ?_) (fun _h => ?_) | with_reducible refine br_ndec (fun _h => ?_) (fun _h => ?_)) <;> (first | (exfalso; omega) | simp only [decide_eq_false _h] | simp only [decide_eq_true _h] | skip)) | ((first | with_reducible refine br_not (fun _h => ?_) (fun _h => ?_) | with_reducible refine br_var (fun _h => ?_) (fun _h => ?_)) <;> (try simp only [_h])) | ((with_reducible apply call (c1)); (focus (simp (disch := omega) only [go_sem, Nat.reduceEqDiff, ↓reduceIte, reduceCtorEq, Nat.reduceAdd, Nat.reduceMul, Int.reduceToNat, List.reduceReplicate, Nat.reduceLeDiff, Nat.reduceLT, Int.reduceLT, Int.reduceLE, Int.reduceEq]; (try rfl); done))) | fail)
  (refine loopC hS [0, 12, 13] (by simp only [go_sem, Nat.reduceEqDiff, ↓reduceIte, reduceCtorEq, Nat.reduceAdd, Nat.reduceMul, Int.reduceToNat, List.reduceReplicate, Nat.reduceLeDiff, Nat.reduceLT, Int.reduceLT, Int.reduceLE, Int.reduceEq]; try rfl) (fun (i : Nat) => [(14, intA i)]) (fun (i : Nat) => []) (fun (i : Nat) => i ≤ l.length ∧ ∀ j, j < i → badG l j = false) (fun (i : Nat) => l.length - i) (0) ?h02 ?hn2 ?rd2; case hn2 => (intro s; first | rfl | (rcases s with ⟨_, _⟩; rfl) | (rcases s with ⟨_, _, _⟩; rfl) | (rcases s with ⟨_, _, _, _⟩; rfl) | (rcases s with ⟨_, _, _, _, _⟩; rfl)))
  · simp (disch := omega) only [go_sem, Nat.reduceEqDiff, ↓reduceIte, reduceCtorEq, Nat.reduceAdd, Nat.reduceMul, Int.reduceToNat, List.reduceReplicate, Nat.reduceLeDiff, Nat.reduceLT, Int.reduceLT, Int.reduceLE, Int.reduceEq]; exact ⟨Nat.zero_le _, fun j hj => by omega⟩
  · rintro i ⟨h1, h2⟩
    replace h1 : i ≤ l.length := h1
    replace h2 : ∀ j, j < i → badG l j = false := h2
    by_cases hi : i < l.length
    · have h00 : 0 < l.length := by omega
      have hp : i = 0 ∨ i - 1 < l.length := by omega
      have e1 : ((i : Int) - 1).toNat = i - 1 := by omega
      have c2 := slCompare_ok (nth l (i - 1)).1 (nth l i).1 (hs _ (nth_mem (by omega))) (hs _ (nth_mem hi))
      have e0 : (cellsL l).head? = some (sl (nth l 0).1) := by
        cases l with
        | nil => simp at hi
        | cons g l => rfl
      repeat' (first | (with_reducible refine in_seq ?_) | (with_reducible refine in_reg ?_) | (with_reducible refine in_block ?_) | (with_reducible refine in_cond ?_) | (with_reducible refine in_ret ?_) | (with_reducible refine in_skip ?_) | (simp (disch := omega) only [go_sem, Nat.reduceEqDiff, ↓reduceIte, reduceCtorEq, Nat.reduceAdd, Nat.reduceMul, Int.reduceToNat, List.reduceReplicate, Nat.reduceLeDiff, Nat.reduceLT, Int.reduceLT, Int.reduceLE, Int.reduceEq, e1, e0]) | (with_reducible refine giv_intro fun _h => ?_) | (with_reducible refine alt_intro ?_ (fun _h => ?_)) | ((first | with_reducible refine br_dec (fun _h => ?_) (fun _h => ?_) | with_reducible refine br_ndec (fun _h => ?_) (fun _h => ?_)) <;> (first | (exfalso; omega) | simp only [decide_eq_false _h] | simp only [decide_eq_true _h] | skip)) | ((first | with_reducible refine br_not (fun _h => ?_) (fun _h => ?_) | with_reducible refine br_var (fun _h => ?_) (fun _h => ?_)) <;> (try simp only [_h])) | ((with_reducible apply call_D (c2)); (focus (simp (disch := omega) only [go_sem, Nat.reduceEqDiff, ↓reduceIte, reduceCtorEq, Nat.reduceAdd, Nat.reduceMul, Int.reduceToNat, List.reduceReplicate, Nat.reduceLeDiff, Nat.reduceLT, Int.reduceLT, Int.reduceLE, Int.reduceEq, e1, e0]; (try rfl); done))) | fail)
      all_goals (first | (refine given_1 hi ?_; simp only [badG, Bool.or_eq_true, Bool.and_eq_true, decide_eq_true_eq, Bool.not_eq_true', decide_eq_false_iff_not]; omega) | skip)
      all_goals
        refine ⟨i + 1, ⟨by omega, by omega, fun j hj => ?_⟩, rfl⟩
        by_cases e : j = i
        · rw [e, ← Bool.not_eq_true]; simp only [badG, Bool.or_eq_true, Bool.and_eq_true, decide_eq_true_eq, Bool.not_eq_true', decide_eq_false_iff_not]; omega
        · exact h2 j (by omega)
    · repeat' (first | (with_reducible refine in_seq ?_) | (with_reducible refine in_reg ?_) | (with_reducible refine in_block ?_) | (with_reducible refine in_cond ?_) | (with_reducible refine in_ret ?_) | (with_reducible refine in_skip ?_) | (simp (disch := omega) only [go_sem, Nat.reduceEqDiff, ↓reduceIte, reduceCtorEq, Nat.reduceAdd, Nat.reduceMul, Int.reduceToNat, List.reduceReplicate, Nat.reduceLeDiff, Nat.reduceLT, Int.reduceLT, Int.reduceLE, Int.reduceEq]) | (with_reducible refine giv_intro fun _h => ?_) | (with_reducible refine alt_intro ?_ (fun _h => ?_)) | ((first | with_reducible refine br_dec (fun _h => ?_) (fun _h => ?_) | with_reducible refine br_ndec (fun _h => ?_) (fun _h => ?_)) <;> (first | (exfalso; omega) | simp only [decide_eq_false _h] | simp only [decide_eq_true _h] | skip)) | ((first | with_reducible refine br_not (fun _h => ?_) (fun _h => ?_) | with_reducible refine br_var (fun _h => ?_) (fun _h => ?_)) <;> (try simp only [_h])) | fail)
      exact given_0 fun j hj => h2 j (by omega)
end Go.Proofs.Ytedbjmonfbpefaa.Ev

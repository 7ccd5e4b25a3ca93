/- The law TallySmooths. -/
import Derived.Test.YtedbjmonfbpefaaFnU
import Derived.Test.YtedbjmonfbpefaaFnG
set_option linter.unusedVariables false
set_option linter.unusedSimpArgs false
namespace Go.Proofs.Ytedbjmonfbpefaa.Ev
open Go Go.Proofs
theorem smoothV_eq (l : List Gram) (w : List Str) : ∃ a b : Int, smoothV l w = frA a b := by
  unfold smoothV; split
  · exact ⟨_, _, rfl⟩
  · exact ⟨0, 0, rfl⟩
/-- ablaut/ablautlaw27.TallySmooths: 2 parameters, 0 captured -/
def s8 : SC := .seq (.reg [⟨(some 4), .mv (.c (.bool false)), none⟩])
  (.seq (.seq (.reg [⟨(some 9), .mv (.t 0), none⟩,
       ⟨(some 10), .call (.f 30) [(.t 9)], none⟩,
       ⟨(some 11), .bin .gtr (.t 10) (.c (.int .i64 400000)), none⟩,
       ⟨(some 12), .mv (.t 11), none⟩,
       ⟨(some 13), .mv (.t 1), some (12, false)⟩,
       ⟨(some 14), .call (.f 31) [(.t 13)], some (12, false)⟩,
       ⟨(some 15), .bin .gtr (.t 14) (.c (.int .i64 400000)), some (12, false)⟩,
       ⟨(some 16), .pick (.t 12) (.c (.bool true)) (.t 15), none⟩])
    (.cond (.t 16) (.seq (.reg [⟨(some 17), .call (.f 17) [], none⟩,
         ⟨(some 4), .mv (.t 17), none⟩])
      (.ret)) (.skip)))
   (.seq (.reg [⟨(some 19), .mv (.t 0), none⟩,
       ⟨(some 20), .mv (.t 1), none⟩,
       ⟨(some 21), .call (.f 32) [(.t 19), (.t 20)], none⟩,
       ⟨(some 18), .mv (.t 21), none⟩,
       ⟨(some 22), .ext (.t 18) 0, none⟩,
       ⟨(some 23), .ext (.t 18) 1, none⟩,
       ⟨(some 5), .alloc 27 2 [(.int .i64 0), (.int .i64 0)], none⟩,
       ⟨none, .store 2 (.t 5) (.t 22), none⟩,
       ⟨(some 6), .mv (.t 23), none⟩])
    (.seq (.reg [⟨(some 25), .mv (.t 0), none⟩,
        ⟨(some 26), .mv (.t 1), none⟩,
        ⟨(some 27), .call (.f 33) [(.t 25), (.t 26)], none⟩,
        ⟨(some 24), .mv (.t 27), none⟩,
        ⟨(some 28), .ext (.t 24) 0, none⟩,
        ⟨(some 29), .ext (.t 24) 1, none⟩,
        ⟨(some 7), .alloc 27 2 [(.int .i64 0), (.int .i64 0)], none⟩,
        ⟨none, .store 2 (.t 7) (.t 28), none⟩,
        ⟨(some 8), .mv (.t 29), none⟩])
     (.seq (.reg [⟨(some 30), .load (some 2) (.t 5), none⟩,
         ⟨(some 31), .load (some 2) (.t 7), none⟩,
         ⟨(some 32), .eqS false [((.int .i64), 0), ((.int .i64), 1)] (.t 30) (.t 31), none⟩,
         ⟨(some 33), .mv (.t 32), none⟩,
         ⟨(some 34), .mv (.t 6), some (33, true)⟩,
         ⟨(some 35), .mv (.t 8), some (33, true)⟩,
         ⟨(some 36), .bin .eql (.t 34) (.t 35), some (33, true)⟩,
         ⟨(some 37), .pick (.t 33) (.t 36) (.c (.bool false)), none⟩,
         ⟨(some 38), .mv (.t 37), none⟩,
         ⟨(some 39), .call (.f 17) [], some (38, true)⟩,
         ⟨(some 40), .pick (.t 38) (.t 39) (.c (.bool false)), none⟩,
         ⟨(some 4), .mv (.t 40), none⟩])
      (.ret)))))
theorem s8_ok : lookF Try.prog 8 = some (s8, 41, [.tmp 4]) := by kernel_rfl
set_option maxHeartbeats 1000000 in
theorem TallySmooths_ok (l : List Gram) (w : List Str) (hl : l.length ≤ 8796093022208) (hs : ∀ g ∈ l, g.1.length ≤ 8796093022208 ∧ ∀ s ∈ g.1, s.size ≤ 140737488351232) (hw : w.length ≤ 8796093022208) (hws : ∀ s ∈ w, s.size ≤ 140737488351232) :
    Fn P 8 [sl l, sl w] (boolA true) := by
  have c1 := grams_ok l hl hs
  have c2 := texts_ok w hw hws
  have c3 := tSmooth_ok l w (fun g hg => (hs g hg).1) hw
  have c4 := rSmooth_ok l w (fun g hg => (hs g hg).1) hw
  obtain ⟨a, b, e⟩ := smoothV_eq l w
  rw [e] at c3 c4
  (refine fn_look s8_ok (by simp) (by intro k; simp only [go_sem, Nat.reduceEqDiff, ↓reduceIte, reduceCtorEq, Nat.reduceAdd, Nat.reduceMul, Int.reduceToNat, List.reduceReplicate, Nat.reduceLeDiff, Nat.reduceLT, Int.reduceLT, Int.reduceLE, Int.reduceEq]) fun S hS => cwp_sound _ _ _ _ ?_; simp (disch := omega) only [s8, go_sem, Nat.reduceEqDiff, ↓reduceIte, reduceCtorEq, Nat.reduceAdd, Nat.reduceMul, Int.reduceToNat, List.reduceReplicate, Nat.reduceLeDiff, Nat.reduceLT, Int.reduceLT, Int.reduceLE, Int.reduceEq])
  repeat' (first | (with_reducible refine in_seq ?_) | (with_reducible refine in_reg ?_) | (with_reducible refine in_block ?_) | (with_reducible refine in_cond ?_) | (with_reducible refine in_ret ?_) | (with_reducible refine in_skip ?_) | (simp (disch := omega) only [go_sem, Nat.reduceEqDiff, ↓reduceIte, reduceCtorEq, Nat.reduceAdd, Nat.reduceMul, Int.reduceToNat, List.reduceReplicate, Nat.reduceLeDiff, Nat.reduceLT, Int.reduceLT, Int.reduceLE, Int.reduceEq]) | (with_reducible refine giv_intro fun _h => ?_) | (with_reducible refine alt_intro ?_ (fun _h => ?_)) | ((first | with_reducible refine br_dec (fun _h => ?_) (fun _h => ?_) | with_reducible refine br_ndec (fun _h => ?_) (fun _h => ?_)) <;> (first | (exfalso; omega) | simp only [decide_eq_false _h] | simp only [decide_eq_true _h] | skip)) | ((first | with_reducible refine br_not (fun _h => ?_) (fun _h => ?_) | with_reducible refine br_var (fun _h => ?_) (fun _h => ?_)) <;> (try simp only [_h])) | ((with_reducible apply call (known_ok)); (focus (simp (disch := omega) only [go_sem, Nat.reduceEqDiff, ↓reduceIte, reduceCtorEq, Nat.reduceAdd, Nat.reduceMul, Int.reduceToNat, List.reduceReplicate, Nat.reduceLeDiff, Nat.reduceLT, Int.reduceLT, Int.reduceLE, Int.reduceEq]; (try rfl); done))) | ((with_reducible apply call (c1)); (focus (simp (disch := omega) only [go_sem, Nat.reduceEqDiff, ↓reduceIte, reduceCtorEq, Nat.reduceAdd, Nat.reduceMul, Int.reduceToNat, List.reduceReplicate, Nat.reduceLeDiff, Nat.reduceLT, Int.reduceLT, Int.reduceLE, Int.reduceEq]; (try rfl); done))) | ((with_reducible apply call (c2)); (focus (simp (disch := omega) only [go_sem, Nat.reduceEqDiff, ↓reduceIte, reduceCtorEq, Nat.reduceAdd, Nat.reduceMul, Int.reduceToNat, List.reduceReplicate, Nat.reduceLeDiff, Nat.reduceLT, Int.reduceLT, Int.reduceLE, Int.reduceEq]; (try rfl); done))) | ((with_reducible apply call (c3)); (focus (simp (disch := omega) only [go_sem, Nat.reduceEqDiff, ↓reduceIte, reduceCtorEq, Nat.reduceAdd, Nat.reduceMul, Int.reduceToNat, List.reduceReplicate, Nat.reduceLeDiff, Nat.reduceLT, Int.reduceLT, Int.reduceLE, Int.reduceEq]; (try rfl); done))) | ((with_reducible apply call (c4)); (focus (simp (disch := omega) only [go_sem, Nat.reduceEqDiff, ↓reduceIte, reduceCtorEq, Nat.reduceAdd, Nat.reduceMul, Int.reduceToNat, List.reduceReplicate, Nat.reduceLeDiff, Nat.reduceLT, Int.reduceLT, Int.reduceLE, Int.reduceEq]; (try rfl); done))) | fail)
end Go.Proofs.Ytedbjmonfbpefaa.Ev

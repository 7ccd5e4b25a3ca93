/- Grades: which there are, what becomes of a word by them. -/
import Derived.Test.YtpfoflhhbkjngaaFnHi
set_option linter.unusedVariables false
set_option linter.unusedSimpArgs false
namespace Go.Proofs.Ytpfoflhhbkjngaa.Ev
open Go Go.Proofs

abbrev Grade := List Str × List Str
def gW (g : Grade) : Int := wordsErr [g.1, g.2]
def grdW : List Grade → Int
  | [] => 0
  | g :: l => if gW g ≠ 0 then gW g else grdW l
def grdErr (l : List Grade) : Int := if 24 < l.length then 3 else if grdW l ≠ 0 then grdW l else if l.any (fun g => decide (g.1.length = 0)) = true then 1 else 0
theorem grdErr_3 {l : List Grade} (h : 24 < l.length) : grdErr l = 3 := by rw [grdErr, if_pos h]
theorem grdErr_w {l : List Grade} (h : ¬ 24 < l.length) (h2 : grdW l ≠ 0) : grdErr l = grdW l := by rw [grdErr, if_neg h, if_pos h2]
theorem grdErr_1 {l : List Grade} (h : ¬ 24 < l.length) (h2 : grdW l = 0) (h3 : l.any (fun g => decide (g.1.length = 0)) = true) : grdErr l = 1 := by rw [grdErr, if_neg h, if_neg (by omega), if_pos h3]
theorem grdErr_0 {l : List Grade} (h : ¬ 24 < l.length) (h2 : grdW l = 0) (h3 : l.any (fun g => decide (g.1.length = 0)) = false) : grdErr l = 0 := by rw [grdErr, if_neg h, if_neg (by omega), if_neg (by rw [h3]; simp)]
/-- slices.IndexFunc[[]ablaut/api.Grade,ablaut/api.Grade]: 2 parameters, 0 captured -/
def s142 : SC := .seq (.reg [⟨(some 4), .mv (.c (.int .i64 0)), none⟩])
  (.seq (.seq (.reg [⟨(some 6), .mv (.t 0), none⟩,
       ⟨(some 7), .lenL (.t 6), none⟩,
       ⟨(some 8), .mv (.c (.int .i64 0)), none⟩])
    (.block 0 (.loop (.seq (.reg [⟨(some 9), .bin .lss (.t 8) (.t 7), none⟩])
       (.seq (.cond (.t 9) (.skip) (.exit 0))
        (.seq (.block 1 (.seq (.reg [⟨(some 10), .mv (.t 8), none⟩,
              ⟨(some 5), .mv (.t 10), none⟩])
           (.seq (.reg [⟨(some 11), .mv (.t 1), none⟩,
               ⟨(some 12), .mv (.t 0), none⟩,
               ⟨(some 13), .mv (.t 5), none⟩,
               ⟨(some 14), .iaddr 2 (.t 12) (.t 13), none⟩,
               ⟨(some 15), .load (some 2) (.t 14), none⟩,
               ⟨(some 16), .call (.t 11) [(.t 15)], none⟩])
            (.cond (.t 16) (.seq (.reg [⟨(some 17), .mv (.t 5), none⟩,
                 ⟨(some 4), .mv (.t 17), none⟩])
              (.ret)) (.skip)))))
         (.reg [⟨(some 18), .bin .add (.t 8) (.c (.int .i64 1)), none⟩,
            ⟨(some 8), .mv (.t 18), none⟩])))))))
   (.seq (.reg [⟨(some 4), .mv (.c (.int .i64 (-1))), none⟩])
    (.ret)))
theorem s142_ok : lookF Try.prog 142 = some (s142, 19, [.tmp 4]) := by kernel_rfl
theorem grdIdx_ok (l : List Grade) (p : Grade → Bool) (g : FuncId) (caps : List AV) (hc : ∀ c ∈ caps, AV.Still c) (hp : ∀ x, x ∈ l → Fn P g (valA x :: caps) (boolA (p x))) :
    Fn P 142 [sl l, .clo g caps] (intA (match l.findIdx? p with | some i => (i : Int) | none => -1)) := by
  have h1 := caps_seen hc
  have h2 := caps_bel hc
  (refine fn_look s142_ok (by simp) (by intro k; simp only [go_sem, Nat.reduceEqDiff, ↓reduceIte, reduceCtorEq, Nat.reduceAdd, Nat.reduceMul, Int.reduceToNat, List.reduceReplicate, Nat.reduceLeDiff, Nat.reduceLT, Int.reduceLT, Int.reduceLE, Int.reduceEq]) fun S hS => cwp_sound _ _ _ _ ?_; simp (disch := omega) only [s142, go_sem, Nat.reduceEqDiff, ↓reduceIte, reduceCtorEq, Nat.reduceAdd, Nat.reduceMul, Int.reduceToNat, List.reduceReplicate, Nat.reduceLeDiff, Nat.reduceLT, Int.reduceLT, Int.reduceLE, Int.reduceEq])
  repeat' (first | (with_reducible refine in_seq ?_) | (with_reducible refine in_reg ?_) | (with_reducible refine in_block ?_) | (with_reducible refine in_cond ?_) | (with_reducible refine in_ret ?_) | (with_reducible refine in_skip ?_) | (simp (disch := omega) only [go_sem, Nat.reduceEqDiff, ↓reduceIte, reduceCtorEq, Nat.reduceAdd, Nat.reduceMul, Int.reduceToNat, List.reduceReplicate, Nat.reduceLeDiff, Nat.reduceLT, Int.reduceLT, Int.reduceLE, Int.reduceEq, h1, h2]) | (with_reducible refine giv_intro fun _h => ?_) | (with_reducible refine alt_intro ?_ (fun _h => ?_)) | ((first | with_reducible refine br_dec (fun _h => ?_) (fun _h => ?_) | with_reducible refine br_ndec (fun _h => ?_) (fun _h => ?_)) <;> (first | (exfalso; omega) | simp only [decide_eq_false _h] | simp only [decide_eq_true _h] | skip)) | ((first | with_reducible refine br_not (fun _h => ?_) (fun _h => ?_) | with_reducible refine br_var (fun _h => ?_) (fun _h => ?_)) <;> (try simp only [_h])) | fail)
  (refine loopC hS [0, 1, 7] (by simp only [go_sem, Nat.reduceEqDiff, ↓reduceIte, reduceCtorEq, Nat.reduceAdd, Nat.reduceMul, Int.reduceToNat, List.reduceReplicate, Nat.reduceLeDiff, Nat.reduceLT, Int.reduceLT, Int.reduceLE, Int.reduceEq]; try rfl) (fun (i : Nat) => [(8, intA i)]) (fun (i : Nat) => []) (fun (i : Nat) => i ≤ l.length ∧ l.findIdx? p = ((l.drop i).findIdx? p).map (· + i)) (fun (i : Nat) => l.length - i) (0) ?h01 ?hn1 ?rd1; case hn1 => (intro s; first | rfl | (rcases s with ⟨_, _⟩; rfl) | (rcases s with ⟨_, _, _⟩; rfl) | (rcases s with ⟨_, _, _, _⟩; rfl) | (rcases s with ⟨_, _, _, _, _⟩; rfl)))
  · simp (disch := omega) only [go_sem, Nat.reduceEqDiff, ↓reduceIte, reduceCtorEq, Nat.reduceAdd, Nat.reduceMul, Int.reduceToNat, List.reduceReplicate, Nat.reduceLeDiff, Nat.reduceLT, Int.reduceLT, Int.reduceLE, Int.reduceEq]; simp
  rintro i ⟨hi, hI⟩
  replace hi : i ≤ l.length := hi
  replace hI : l.findIdx? p = ((l.drop i).findIdx? p).map (· + i) := hI
  repeat' (first | (with_reducible refine in_seq ?_) | (with_reducible refine in_reg ?_) | (with_reducible refine in_block ?_) | (with_reducible refine in_cond ?_) | (with_reducible refine in_ret ?_) | (with_reducible refine in_skip ?_) | (simp (disch := omega) only [go_sem, Nat.reduceEqDiff, ↓reduceIte, reduceCtorEq, Nat.reduceAdd, Nat.reduceMul, Int.reduceToNat, List.reduceReplicate, Nat.reduceLeDiff, Nat.reduceLT, Int.reduceLT, Int.reduceLE, Int.reduceEq, h1, h2]) | (with_reducible refine giv_intro fun _h => ?_) | (with_reducible refine alt_intro ?_ (fun _h => ?_)) | ((first | with_reducible refine br_dec (fun _h => ?_) (fun _h => ?_) | with_reducible refine br_ndec (fun _h => ?_) (fun _h => ?_)) <;> (first | (exfalso; omega) | simp only [decide_eq_false _h] | simp only [decide_eq_true _h] | skip)) | ((first | with_reducible refine br_not (fun _h => ?_) (fun _h => ?_) | with_reducible refine br_var (fun _h => ?_) (fun _h => ?_)) <;> (try simp only [_h])) | ((with_reducible apply call (hp _ (nth_mem (by assumption)))); (focus (simp (disch := omega) only [go_sem, Nat.reduceEqDiff, ↓reduceIte, reduceCtorEq, Nat.reduceAdd, Nat.reduceMul, Int.reduceToNat, List.reduceReplicate, Nat.reduceLeDiff, Nat.reduceLT, Int.reduceLT, Int.reduceLE, Int.reduceEq, h1, h2]; (try rfl); done))) | fail)
  · rw [hI, nth_drop (by assumption)]
    simp_all [List.findIdx?_cons]
  · refine ⟨i + 1, ⟨by omega, by omega, ?_⟩, by omega⟩
    rw [hI, nth_drop (by assumption), List.findIdx?_cons]
    simp_all [Function.comp_def, Nat.add_comm, Nat.add_left_comm]
  · rw [hI, List.drop_eq_nil_of_le (by omega)]; rfl
/-- slices.ContainsFunc[[]ablaut/api.Grade,ablaut/api.Grade]: 2 parameters, 0 captured -/
def s118 : SC := .seq (.reg [⟨(some 4), .mv (.c (.bool false)), none⟩])
  (.seq (.reg [⟨(some 5), .mv (.t 0), none⟩,
      ⟨(some 6), .mv (.t 1), none⟩,
      ⟨(some 7), .call (.f 142) [(.t 5), (.t 6)], none⟩,
      ⟨(some 8), .bin .geq (.t 7) (.c (.int .i64 0)), none⟩,
      ⟨(some 4), .mv (.t 8), none⟩])
   (.ret))
theorem s118_ok : lookF Try.prog 118 = some (s118, 9, [.tmp 4]) := by kernel_rfl
theorem grdAny_ok (l : List Grade) (p : Grade → Bool) (g : FuncId) (caps : List AV) (hc : ∀ c ∈ caps, AV.Still c) (hp : ∀ x, x ∈ l → Fn P g (valA x :: caps) (boolA (p x))) :
    Fn P 118 [sl l, .clo g caps] (boolA (l.any p)) := by
  have h1 := caps_seen hc
  have h2 := caps_bel hc
  (refine fn_look s118_ok (by simp) (by intro k; simp only [go_sem, Nat.reduceEqDiff, ↓reduceIte, reduceCtorEq, Nat.reduceAdd, Nat.reduceMul, Int.reduceToNat, List.reduceReplicate, Nat.reduceLeDiff, Nat.reduceLT, Int.reduceLT, Int.reduceLE, Int.reduceEq]) fun S hS => cwp_sound _ _ _ _ ?_; simp (disch := omega) only [s118, go_sem, Nat.reduceEqDiff, ↓reduceIte, reduceCtorEq, Nat.reduceAdd, Nat.reduceMul, Int.reduceToNat, List.reduceReplicate, Nat.reduceLeDiff, Nat.reduceLT, Int.reduceLT, Int.reduceLE, Int.reduceEq])
  repeat' (first | (with_reducible refine in_seq ?_) | (with_reducible refine in_reg ?_) | (with_reducible refine in_block ?_) | (with_reducible refine in_cond ?_) | (with_reducible refine in_ret ?_) | (with_reducible refine in_skip ?_) | (simp (disch := omega) only [go_sem, Nat.reduceEqDiff, ↓reduceIte, reduceCtorEq, Nat.reduceAdd, Nat.reduceMul, Int.reduceToNat, List.reduceReplicate, Nat.reduceLeDiff, Nat.reduceLT, Int.reduceLT, Int.reduceLE, Int.reduceEq, h1, h2]) | (with_reducible refine giv_intro fun _h => ?_) | (with_reducible refine alt_intro ?_ (fun _h => ?_)) | ((first | with_reducible refine br_dec (fun _h => ?_) (fun _h => ?_) | with_reducible refine br_ndec (fun _h => ?_) (fun _h => ?_)) <;> (first | (exfalso; omega) | simp only [decide_eq_false _h] | simp only [decide_eq_true _h] | skip)) | ((first | with_reducible refine br_not (fun _h => ?_) (fun _h => ?_) | with_reducible refine br_var (fun _h => ?_) (fun _h => ?_)) <;> (try simp only [_h])) | ((with_reducible apply call (grdIdx_ok l p g caps hc hp)); (focus (simp (disch := omega) only [go_sem, Nat.reduceEqDiff, ↓reduceIte, reduceCtorEq, Nat.reduceAdd, Nat.reduceMul, Int.reduceToNat, List.reduceReplicate, Nat.reduceLeDiff, Nat.reduceLT, Int.reduceLT, Int.reduceLE, Int.reduceEq, h1, h2]; (try rfl); done))) | fail)
  exact findIdx_anyG
/-- ablaut/harm.grades$1: 1 parameters, 0 captured -/
def s119 : SC := .seq (.reg [⟨(some 1), .box 92 2 (.t 0), none⟩,
     ⟨(some 2), .mv (.c (.bool false)), none⟩])
  (.seq (.reg [⟨(some 3), .faddr 0 (.t 1), none⟩,
      ⟨(some 4), .load none (.t 3), none⟩,
      ⟨(some 5), .lenL (.t 4), none⟩,
      ⟨(some 6), .bin .eql (.t 5) (.c (.int .i64 0)), none⟩,
      ⟨(some 2), .mv (.t 6), none⟩])
   (.ret))
theorem s119_ok : lookF Try.prog 119 = some (s119, 7, [.tmp 2]) := by kernel_rfl
theorem grdZero_ok (g : Grade) : Fn P 119 [valA g] (boolA (decide (g.1.length = 0))) := by
  (refine fn_look s119_ok (by simp) (by intro k; simp only [go_sem, Nat.reduceEqDiff, ↓reduceIte, reduceCtorEq, Nat.reduceAdd, Nat.reduceMul, Int.reduceToNat, List.reduceReplicate, Nat.reduceLeDiff, Nat.reduceLT, Int.reduceLT, Int.reduceLE, Int.reduceEq]) fun S hS => cwp_sound _ _ _ _ ?_; simp (disch := omega) only [s119, go_sem, Nat.reduceEqDiff, ↓reduceIte, reduceCtorEq, Nat.reduceAdd, Nat.reduceMul, Int.reduceToNat, List.reduceReplicate, Nat.reduceLeDiff, Nat.reduceLT, Int.reduceLT, Int.reduceLE, Int.reduceEq])
  repeat' (first | (with_reducible refine in_seq ?_) | (with_reducible refine in_reg ?_) | (with_reducible refine in_block ?_) | (with_reducible refine in_cond ?_) | (with_reducible refine in_ret ?_) | (with_reducible refine in_skip ?_) | (simp (disch := omega) only [go_sem, Nat.reduceEqDiff, ↓reduceIte, reduceCtorEq, Nat.reduceAdd, Nat.reduceMul, Int.reduceToNat, List.reduceReplicate, Nat.reduceLeDiff, Nat.reduceLT, Int.reduceLT, Int.reduceLE, Int.reduceEq]) | (with_reducible refine giv_intro fun _h => ?_) | (with_reducible refine alt_intro ?_ (fun _h => ?_)) | ((first | with_reducible refine br_dec (fun _h => ?_) (fun _h => ?_) | with_reducible refine br_ndec (fun _h => ?_) (fun _h => ?_)) <;> (first | (exfalso; omega) | simp only [decide_eq_false _h] | simp only [decide_eq_true _h] | skip)) | ((first | with_reducible refine br_not (fun _h => ?_) (fun _h => ?_) | with_reducible refine br_var (fun _h => ?_) (fun _h => ?_)) <;> (try simp only [_h])) | fail)
  rw [Bool.eq_iff_iff, decide_eq_true_iff, decide_eq_true_iff]; omega
/-- ablaut/harm.grades: 1 parameters, 0 captured -/
def s77 : SC := .seq (.reg [⟨(some 2), .mv (.c (.int .i64 0)), none⟩])
  (.seq (.seq (.reg [⟨(some 6), .mv (.t 0), none⟩,
       ⟨(some 7), .lenL (.t 6), none⟩,
       ⟨(some 8), .bin .gtr (.t 7) (.c (.int .i64 24)), none⟩])
    (.cond (.t 8) (.seq (.reg [⟨(some 2), .mv (.c (.int .i64 3)), none⟩])
      (.ret)) (.skip)))
   (.seq (.seq (.reg [⟨(some 9), .mv (.t 0), none⟩,
        ⟨(some 10), .lenL (.t 9), none⟩,
        ⟨(some 11), .mv (.c (.int .i64 0)), none⟩])
     (.block 0 (.loop (.seq (.reg [⟨(some 12), .bin .lss (.t 11) (.t 10), none⟩])
        (.seq (.cond (.t 12) (.skip) (.exit 0))
         (.seq (.block 1 (.seq (.reg [⟨(some 13), .iaddr 2 (.t 9) (.t 11), none⟩,
               ⟨(some 14), .load (some 2) (.t 13), none⟩,
               ⟨(some 4), .alloc 92 2 [(.slice none 0 0), (.slice none 0 0)], none⟩,
               ⟨none, .store 2 (.t 4) (.t 14), none⟩])
            (.seq (.reg [⟨(some 15), .faddr 0 (.t 4), none⟩,
                ⟨(some 16), .load none (.t 15), none⟩,
                ⟨(some 17), .faddr 1 (.t 4), none⟩,
                ⟨(some 18), .load none (.t 17), none⟩,
                ⟨(some 19), .buildSl 22 1 2 [(.slice none 0 0)] [(0, 1, (.t 16)), (1, 1, (.t 18))], none⟩,
                ⟨(some 20), .call (.f 53) [(.t 19)], none⟩,
                ⟨(some 5), .mv (.t 20), none⟩])
             (.seq (.reg [⟨(some 21), .mv (.t 5), none⟩,
                 ⟨(some 22), .bin .neq (.t 21) (.c (.int .i64 0)), none⟩])
              (.cond (.t 22) (.seq (.reg [⟨(some 23), .mv (.t 5), none⟩,
                   ⟨(some 2), .mv (.t 23), none⟩])
                (.ret)) (.skip))))))
          (.reg [⟨(some 24), .bin .add (.t 11) (.c (.int .i64 1)), none⟩,
             ⟨(some 11), .mv (.t 24), none⟩])))))))
    (.seq (.seq (.reg [⟨(some 25), .mv (.t 0), none⟩,
         ⟨(some 26), .call (.f 118) [(.t 25), (.f 119)], none⟩])
      (.cond (.t 26) (.seq (.reg [⟨(some 2), .mv (.c (.int .i64 1)), none⟩])
        (.ret)) (.skip)))
     (.seq (.reg [⟨(some 2), .mv (.c (.int .i64 0)), none⟩])
      (.ret)))))
theorem s77_ok : lookF Try.prog 77 = some (s77, 27, [.tmp 2]) := by kernel_rfl
set_option maxHeartbeats 1000000 in
theorem hGrades_ok (l : List Grade) : Fn P 77 [sl l] (intA (grdErr l)) := by
  (refine fn_look s77_ok (by simp) (by intro k; simp only [go_sem, Nat.reduceEqDiff, ↓reduceIte, reduceCtorEq, Nat.reduceAdd, Nat.reduceMul, Int.reduceToNat, List.reduceReplicate, Nat.reduceLeDiff, Nat.reduceLT, Int.reduceLT, Int.reduceLE, Int.reduceEq]) fun S hS => cwp_sound _ _ _ _ ?_; simp (disch := omega) only [s77, go_sem, Nat.reduceEqDiff, ↓reduceIte, reduceCtorEq, Nat.reduceAdd, Nat.reduceMul, Int.reduceToNat, List.reduceReplicate, Nat.reduceLeDiff, Nat.reduceLT, Int.reduceLT, Int.reduceLE, Int.reduceEq])
  repeat' (first | (with_reducible refine in_seq ?_) | (with_reducible refine in_reg ?_) | (with_reducible refine in_block ?_) | (with_reducible refine in_cond ?_) | (with_reducible refine in_ret ?_) | (with_reducible refine in_skip ?_) | (simp (disch := omega) only [go_sem, Nat.reduceEqDiff, ↓reduceIte, reduceCtorEq, Nat.reduceAdd, Nat.reduceMul, Int.reduceToNat, List.reduceReplicate, Nat.reduceLeDiff, Nat.reduceLT, Int.reduceLT, Int.reduceLE, Int.reduceEq]) | (with_reducible refine giv_intro fun _h => ?_) | (with_reducible refine alt_intro ?_ (fun _h => ?_)) | ((first | with_reducible refine br_dec (fun _h => ?_) (fun _h => ?_) | with_reducible refine br_ndec (fun _h => ?_) (fun _h => ?_)) <;> (first | (exfalso; omega) | simp only [decide_eq_false _h] | simp only [decide_eq_true _h] | skip)) | ((first | with_reducible refine br_not (fun _h => ?_) (fun _h => ?_) | with_reducible refine br_var (fun _h => ?_) (fun _h => ?_)) <;> (try simp only [_h])) | fail)
  · rw [grdErr_3 (by omega)]
  (refine loopC hS [0, 9, 10] (by simp only [go_sem, Nat.reduceEqDiff, ↓reduceIte, reduceCtorEq, Nat.reduceAdd, Nat.reduceMul, Int.reduceToNat, List.reduceReplicate, Nat.reduceLeDiff, Nat.reduceLT, Int.reduceLT, Int.reduceLE, Int.reduceEq]; try rfl) (fun (i : Nat) => [(11, intA i)]) (fun (i : Nat) => []) (fun (i : Nat) => i ≤ l.length ∧ grdW l = grdW (l.drop i)) (fun (i : Nat) => l.length - i) (0) ?h02 ?hn2 ?rd2; case hn2 => (intro s; first | rfl | (rcases s with ⟨_, _⟩; rfl) | (rcases s with ⟨_, _, _⟩; rfl) | (rcases s with ⟨_, _, _, _⟩; rfl) | (rcases s with ⟨_, _, _, _, _⟩; rfl)))
  · simp (disch := omega) only [go_sem, Nat.reduceEqDiff, ↓reduceIte, reduceCtorEq, Nat.reduceAdd, Nat.reduceMul, Int.reduceToNat, List.reduceReplicate, Nat.reduceLeDiff, Nat.reduceLT, Int.reduceLT, Int.reduceLE, Int.reduceEq]; simp
  rintro i ⟨hi, hI⟩
  replace hi : i ≤ l.length := hi
  replace hI : grdW l = grdW (l.drop i) := hI
  by_cases hil : i < l.length
  · rw [nth_drop hil, grdW] at hI
    have c1 := words_ok [(nth l i).1, (nth l i).2]
    rw [show wordsErr [(nth l i).1, (nth l i).2] = gW (nth l i) from rfl] at c1
    repeat' (first | (with_reducible refine in_seq ?_) | (with_reducible refine in_reg ?_) | (with_reducible refine in_block ?_) | (with_reducible refine in_cond ?_) | (with_reducible refine in_ret ?_) | (with_reducible refine in_skip ?_) | (simp (disch := omega) only [go_sem, Nat.reduceEqDiff, ↓reduceIte, reduceCtorEq, Nat.reduceAdd, Nat.reduceMul, Int.reduceToNat, List.reduceReplicate, Nat.reduceLeDiff, Nat.reduceLT, Int.reduceLT, Int.reduceLE, Int.reduceEq]) | (with_reducible refine giv_intro fun _h => ?_) | (with_reducible refine alt_intro ?_ (fun _h => ?_)) | ((first | with_reducible refine br_dec (fun _h => ?_) (fun _h => ?_) | with_reducible refine br_ndec (fun _h => ?_) (fun _h => ?_)) <;> (first | (exfalso; omega) | simp only [decide_eq_false _h] | simp only [decide_eq_true _h] | skip)) | ((first | with_reducible refine br_not (fun _h => ?_) (fun _h => ?_) | with_reducible refine br_var (fun _h => ?_) (fun _h => ?_)) <;> (try simp only [_h])) | ((with_reducible apply call_lend (c1)); (focus (simp (disch := omega) only [go_sem, Nat.reduceEqDiff, ↓reduceIte, reduceCtorEq, Nat.reduceAdd, Nat.reduceMul, Int.reduceToNat, List.reduceReplicate, Nat.reduceLeDiff, Nat.reduceLT, Int.reduceLT, Int.reduceLE, Int.reduceEq]; (try rfl); done)); (focus rfl)) | fail)
    · rw [grdErr_w (by omega) (by rw [hI, if_pos _h]; exact _h), hI, if_pos _h]
    · refine ⟨i + 1, ⟨by omega, by omega, ?_⟩, by omega⟩
      rw [hI, if_neg (by omega)]
  · rw [drop_end (by omega), grdW] at hI
    have c2 := grdAny_ok l (fun g => decide (g.1.length = 0)) 119 [] (by simp) fun j hj => grdZero_ok j
    repeat' (first | (with_reducible refine in_seq ?_) | (with_reducible refine in_reg ?_) | (with_reducible refine in_block ?_) | (with_reducible refine in_cond ?_) | (with_reducible refine in_ret ?_) | (with_reducible refine in_skip ?_) | (simp (disch := omega) only [go_sem, Nat.reduceEqDiff, ↓reduceIte, reduceCtorEq, Nat.reduceAdd, Nat.reduceMul, Int.reduceToNat, List.reduceReplicate, Nat.reduceLeDiff, Nat.reduceLT, Int.reduceLT, Int.reduceLE, Int.reduceEq]) | (with_reducible refine giv_intro fun _h => ?_) | (with_reducible refine alt_intro ?_ (fun _h => ?_)) | ((first | with_reducible refine br_dec (fun _h => ?_) (fun _h => ?_) | with_reducible refine br_ndec (fun _h => ?_) (fun _h => ?_)) <;> (first | (exfalso; omega) | simp only [decide_eq_false _h] | simp only [decide_eq_true _h] | skip)) | ((first | with_reducible refine br_not (fun _h => ?_) (fun _h => ?_) | with_reducible refine br_var (fun _h => ?_) (fun _h => ?_)) <;> (try simp only [_h])) | ((with_reducible apply call (c2)); (focus (simp (disch := omega) only [go_sem, Nat.reduceEqDiff, ↓reduceIte, reduceCtorEq, Nat.reduceAdd, Nat.reduceMul, Int.reduceToNat, List.reduceReplicate, Nat.reduceLeDiff, Nat.reduceLT, Int.reduceLT, Int.reduceLE, Int.reduceEq]; (try rfl); done))) | fail)
    · rw [grdErr_1 (by omega) hI _h]
    · rw [grdErr_0 (by omega) hI _h]
/-- ablaut/ablautref13.Grades: 1 parameters, 0 captured -/
def s80 : SC := .seq (.reg [⟨(some 2), .mv (.c (.int .i64 0)), none⟩])
  (.seq (.seq (.reg [⟨(some 6), .mv (.t 0), none⟩,
       ⟨(some 7), .lenL (.t 6), none⟩,
       ⟨(some 8), .bin .gtr (.t 7) (.c (.int .i64 24)), none⟩])
    (.cond (.t 8) (.seq (.reg [⟨(some 2), .mv (.c (.int .i64 3)), none⟩])
      (.ret)) (.skip)))
   (.seq (.seq (.reg [⟨(some 3), .mv (.c (.int .i64 0)), none⟩])
     (.block 0 (.loop (.seq (.seq (.reg [⟨(some 9), .mv (.t 3), none⟩,
            ⟨(some 10), .mv (.t 0), none⟩,
            ⟨(some 11), .lenL (.t 10), none⟩,
            ⟨(some 12), .bin .lss (.t 9) (.t 11), none⟩])
         (.cond (.t 12) (.skip) (.exit 0)))
        (.seq (.block 1 (.seq (.regD [⟨(some 15), .mv (.t 0), none⟩,
              ⟨(some 16), .mv (.t 3), none⟩,
              ⟨(some 17), .iaddr 2 (.t 15) (.t 16), none⟩,
              ⟨(some 18), .faddr 0 (.t 17), none⟩,
              ⟨(some 19), .load none (.t 18), none⟩,
              ⟨(some 20), .mv (.t 0), none⟩,
              ⟨(some 21), .mv (.t 3), none⟩,
              ⟨(some 22), .iaddr 2 (.t 20) (.t 21), none⟩,
              ⟨(some 23), .faddr 1 (.t 22), none⟩,
              ⟨(some 24), .load none (.t 23), none⟩,
              ⟨(some 25), .buildSl 22 1 2 [(.slice none 0 0)] [(0, 1, (.t 19)), (1, 1, (.t 24))], none⟩,
              ⟨(some 26), .call (.f 55) [(.t 25)], none⟩,
              ⟨(some 4), .mv (.t 26), none⟩])
           (.seq (.reg [⟨(some 27), .mv (.t 4), none⟩,
               ⟨(some 28), .bin .neq (.t 27) (.c (.int .i64 0)), none⟩])
            (.cond (.t 28) (.seq (.reg [⟨(some 29), .mv (.t 4), none⟩,
                 ⟨(some 2), .mv (.t 29), none⟩])
              (.ret)) (.skip)))))
         (.reg [⟨(some 13), .mv (.t 3), none⟩,
            ⟨(some 14), .bin .add (.t 13) (.c (.int .i64 1)), none⟩,
            ⟨(some 3), .mv (.t 14), none⟩]))))))
    (.seq (.seq (.reg [⟨(some 5), .mv (.c (.int .i64 0)), none⟩])
      (.block 2 (.loop (.seq (.seq (.reg [⟨(some 30), .mv (.t 5), none⟩,
             ⟨(some 31), .mv (.t 0), none⟩,
             ⟨(some 32), .lenL (.t 31), none⟩,
             ⟨(some 33), .bin .lss (.t 30) (.t 32), none⟩])
          (.cond (.t 33) (.skip) (.exit 2)))
         (.seq (.block 3 (.seq (.reg [⟨(some 36), .mv (.t 0), none⟩,
               ⟨(some 37), .mv (.t 5), none⟩,
               ⟨(some 38), .iaddr 2 (.t 36) (.t 37), none⟩,
               ⟨(some 39), .faddr 0 (.t 38), none⟩,
               ⟨(some 40), .load none (.t 39), none⟩,
               ⟨(some 41), .lenL (.t 40), none⟩,
               ⟨(some 42), .bin .eql (.t 41) (.c (.int .i64 0)), none⟩])
            (.cond (.t 42) (.seq (.reg [⟨(some 2), .mv (.c (.int .i64 1)), none⟩])
              (.ret)) (.skip))))
          (.reg [⟨(some 34), .mv (.t 5), none⟩,
             ⟨(some 35), .bin .add (.t 34) (.c (.int .i64 1)), none⟩,
             ⟨(some 5), .mv (.t 35), none⟩]))))))
     (.seq (.reg [⟨(some 2), .mv (.c (.int .i64 0)), none⟩])
      (.ret)))))
theorem s80_ok : lookF Try.prog 80 = some (s80, 43, [.tmp 2]) := by kernel_rfl
set_option maxHeartbeats 1000000 in
theorem rGrades_ok (l : List Grade) : Fn P 80 [sl l] (intA (grdErr l)) := by
  (refine fn_look s80_ok (by simp) (by intro k; simp only [go_sem, Nat.reduceEqDiff, ↓reduceIte, reduceCtorEq, Nat.reduceAdd, Nat.reduceMul, Int.reduceToNat, List.reduceReplicate, Nat.reduceLeDiff, Nat.reduceLT, Int.reduceLT, Int.reduceLE, Int.reduceEq]) fun S hS => cwp_sound _ _ _ _ ?_; simp (disch := omega) only [s80, go_sem, Nat.reduceEqDiff, ↓reduceIte, reduceCtorEq, Nat.reduceAdd, Nat.reduceMul, Int.reduceToNat, List.reduceReplicate, Nat.reduceLeDiff, Nat.reduceLT, Int.reduceLT, Int.reduceLE, Int.reduceEq])
  repeat' (first | (with_reducible refine in_seq ?_) | (with_reducible refine in_reg ?_) | (with_reducible refine in_block ?_) | (with_reducible refine in_cond ?_) | (with_reducible refine in_ret ?_) | (with_reducible refine in_skip ?_) | (simp (disch := omega) only [go_sem, Nat.reduceEqDiff, ↓reduceIte, reduceCtorEq, Nat.reduceAdd, Nat.reduceMul, Int.reduceToNat, List.reduceReplicate, Nat.reduceLeDiff, Nat.reduceLT, Int.reduceLT, Int.reduceLE, Int.reduceEq]) | (with_reducible refine giv_intro fun _h => ?_) | (with_reducible refine alt_intro ?_ (fun _h => ?_)) | ((first | with_reducible refine br_dec (fun _h => ?_) (fun _h => ?_) | with_reducible refine br_ndec (fun _h => ?_) (fun _h => ?_)) <;> (first | (exfalso; omega) | simp only [decide_eq_false _h] | simp only [decide_eq_true _h] | skip)) | ((first | with_reducible refine br_not (fun _h => ?_) (fun _h => ?_) | with_reducible refine br_var (fun _h => ?_) (fun _h => ?_)) <;> (try simp only [_h])) | fail)
  · rw [grdErr_3 (by omega)]
  (refine loopC hS [0] (by simp only [go_sem, Nat.reduceEqDiff, ↓reduceIte, reduceCtorEq, Nat.reduceAdd, Nat.reduceMul, Int.reduceToNat, List.reduceReplicate, Nat.reduceLeDiff, Nat.reduceLT, Int.reduceLT, Int.reduceLE, Int.reduceEq]; try rfl) (fun (i : Nat) => [(3, intA i)]) (fun (i : Nat) => []) (fun (i : Nat) => i ≤ l.length ∧ grdW l = grdW (l.drop i)) (fun (i : Nat) => l.length - i) (0) ?h03 ?hn3 ?rd3; case hn3 => (intro s; first | rfl | (rcases s with ⟨_, _⟩; rfl) | (rcases s with ⟨_, _, _⟩; rfl) | (rcases s with ⟨_, _, _, _⟩; rfl) | (rcases s with ⟨_, _, _, _, _⟩; rfl)))
  · simp (disch := omega) only [go_sem, Nat.reduceEqDiff, ↓reduceIte, reduceCtorEq, Nat.reduceAdd, Nat.reduceMul, Int.reduceToNat, List.reduceReplicate, Nat.reduceLeDiff, Nat.reduceLT, Int.reduceLT, Int.reduceLE, Int.reduceEq]; simp
  rintro i ⟨hi, hI⟩
  replace hi : i ≤ l.length := hi
  replace hI : grdW l = grdW (l.drop i) := hI
  by_cases hil : i < l.length
  · rw [nth_drop hil, grdW] at hI
    have c1 := Words_ok [(nth l i).1, (nth l i).2]
    rw [show wordsErr [(nth l i).1, (nth l i).2] = gW (nth l i) from rfl] at c1
    repeat' (first | (with_reducible refine in_seq ?_) | (with_reducible refine in_reg ?_) | (with_reducible refine in_block ?_) | (with_reducible refine in_cond ?_) | (with_reducible refine in_ret ?_) | (with_reducible refine in_skip ?_) | (simp (disch := omega) only [go_sem, Nat.reduceEqDiff, ↓reduceIte, reduceCtorEq, Nat.reduceAdd, Nat.reduceMul, Int.reduceToNat, List.reduceReplicate, Nat.reduceLeDiff, Nat.reduceLT, Int.reduceLT, Int.reduceLE, Int.reduceEq]) | (with_reducible refine giv_intro fun _h => ?_) | (with_reducible refine alt_intro ?_ (fun _h => ?_)) | ((first | with_reducible refine br_dec (fun _h => ?_) (fun _h => ?_) | with_reducible refine br_ndec (fun _h => ?_) (fun _h => ?_)) <;> (first | (exfalso; omega) | simp only [decide_eq_false _h] | simp only [decide_eq_true _h] | skip)) | ((first | with_reducible refine br_not (fun _h => ?_) (fun _h => ?_) | with_reducible refine br_var (fun _h => ?_) (fun _h => ?_)) <;> (try simp only [_h])) | ((with_reducible apply call_D (c1)); (focus (simp (disch := omega) only [go_sem, Nat.reduceEqDiff, ↓reduceIte, reduceCtorEq, Nat.reduceAdd, Nat.reduceMul, Int.reduceToNat, List.reduceReplicate, Nat.reduceLeDiff, Nat.reduceLT, Int.reduceLT, Int.reduceLE, Int.reduceEq]; (try rfl); done))) | fail)
    · rw [grdErr_w (by omega) (by rw [hI, if_pos _h]; exact _h), hI, if_pos _h]
    · refine ⟨i + 1, ⟨by omega, by omega, ?_⟩, by omega⟩
      rw [hI, if_neg (by omega)]
  · rw [drop_end (by omega), grdW] at hI
    repeat' (first | (with_reducible refine in_seq ?_) | (with_reducible refine in_reg ?_) | (with_reducible refine in_block ?_) | (with_reducible refine in_cond ?_) | (with_reducible refine in_ret ?_) | (with_reducible refine in_skip ?_) | (simp (disch := omega) only [go_sem, Nat.reduceEqDiff, ↓reduceIte, reduceCtorEq, Nat.reduceAdd, Nat.reduceMul, Int.reduceToNat, List.reduceReplicate, Nat.reduceLeDiff, Nat.reduceLT, Int.reduceLT, Int.reduceLE, Int.reduceEq]) | (with_reducible refine giv_intro fun _h => ?_) | (with_reducible refine alt_intro ?_ (fun _h => ?_)) | ((first | with_reducible refine br_dec (fun _h => ?_) (fun _h => ?_) | with_reducible refine br_ndec (fun _h => ?_) (fun _h => ?_)) <;> (first | (exfalso; omega) | simp only [decide_eq_false _h] | simp only [decide_eq_true _h] | skip)) | ((first | with_reducible refine br_not (fun _h => ?_) (fun _h => ?_) | with_reducible refine br_var (fun _h => ?_) (fun _h => ?_)) <;> (try simp only [_h])) | fail)
    (refine loopC hS [0] (by simp only [go_sem, Nat.reduceEqDiff, ↓reduceIte, reduceCtorEq, Nat.reduceAdd, Nat.reduceMul, Int.reduceToNat, List.reduceReplicate, Nat.reduceLeDiff, Nat.reduceLT, Int.reduceLT, Int.reduceLE, Int.reduceEq]; try rfl) (fun (k : Nat) => [(5, intA k)]) (fun (k : Nat) => []) (fun (k : Nat) => k ≤ l.length ∧ l.any (fun g => decide (g.1.length = 0)) = (l.drop k).any (fun g => decide (g.1.length = 0))) (fun (k : Nat) => l.length - k) (0) ?h04 ?hn4 ?rd4; case hn4 => (intro s; first | rfl | (rcases s with ⟨_, _⟩; rfl) | (rcases s with ⟨_, _, _⟩; rfl) | (rcases s with ⟨_, _, _, _⟩; rfl) | (rcases s with ⟨_, _, _, _, _⟩; rfl)))
    · simp (disch := omega) only [go_sem, Nat.reduceEqDiff, ↓reduceIte, reduceCtorEq, Nat.reduceAdd, Nat.reduceMul, Int.reduceToNat, List.reduceReplicate, Nat.reduceLeDiff, Nat.reduceLT, Int.reduceLT, Int.reduceLE, Int.reduceEq]; simp
    rintro k ⟨hk, hK⟩
    replace hk : k ≤ l.length := hk
    replace hK : l.any (fun g => decide (g.1.length = 0)) = (l.drop k).any (fun g => decide (g.1.length = 0)) := hK
    by_cases hkl : k < l.length
    · rw [nth_drop hkl, List.any_cons] at hK
      repeat' (first | (with_reducible refine in_seq ?_) | (with_reducible refine in_reg ?_) | (with_reducible refine in_block ?_) | (with_reducible refine in_cond ?_) | (with_reducible refine in_ret ?_) | (with_reducible refine in_skip ?_) | (simp (disch := omega) only [go_sem, Nat.reduceEqDiff, ↓reduceIte, reduceCtorEq, Nat.reduceAdd, Nat.reduceMul, Int.reduceToNat, List.reduceReplicate, Nat.reduceLeDiff, Nat.reduceLT, Int.reduceLT, Int.reduceLE, Int.reduceEq]) | (with_reducible refine giv_intro fun _h => ?_) | (with_reducible refine alt_intro ?_ (fun _h => ?_)) | ((first | with_reducible refine br_dec (fun _h => ?_) (fun _h => ?_) | with_reducible refine br_ndec (fun _h => ?_) (fun _h => ?_)) <;> (first | (exfalso; omega) | simp only [decide_eq_false _h] | simp only [decide_eq_true _h] | skip)) | ((first | with_reducible refine br_not (fun _h => ?_) (fun _h => ?_) | with_reducible refine br_var (fun _h => ?_) (fun _h => ?_)) <;> (try simp only [_h])) | fail)
      all_goals first
        | (rw [grdErr_1 (by omega) hI (by rw [hK, decide_eq_true (by omega)]; rfl)])
        | (refine ⟨k + 1, ⟨by omega, by omega, ?_⟩, by omega⟩
           rw [hK, decide_eq_false (by omega), Bool.false_or])
    · rw [drop_end (by omega)] at hK
      repeat' (first | (with_reducible refine in_seq ?_) | (with_reducible refine in_reg ?_) | (with_reducible refine in_block ?_) | (with_reducible refine in_cond ?_) | (with_reducible refine in_ret ?_) | (with_reducible refine in_skip ?_) | (simp (disch := omega) only [go_sem, Nat.reduceEqDiff, ↓reduceIte, reduceCtorEq, Nat.reduceAdd, Nat.reduceMul, Int.reduceToNat, List.reduceReplicate, Nat.reduceLeDiff, Nat.reduceLT, Int.reduceLT, Int.reduceLE, Int.reduceEq]) | (with_reducible refine giv_intro fun _h => ?_) | (with_reducible refine alt_intro ?_ (fun _h => ?_)) | ((first | with_reducible refine br_dec (fun _h => ?_) (fun _h => ?_) | with_reducible refine br_ndec (fun _h => ?_) (fun _h => ?_)) <;> (first | (exfalso; omega) | simp only [decide_eq_false _h] | simp only [decide_eq_true _h] | skip)) | ((first | with_reducible refine br_not (fun _h => ?_) (fun _h => ?_) | with_reducible refine br_var (fun _h => ?_) (fun _h => ?_)) <;> (try simp only [_h])) | fail)
      rw [grdErr_0 (by omega) hI hK]
theorem grdW_mem : ∀ {l : List Grade}, grdW l = 0 → ∀ g ∈ l, gW g = 0
  | [], _, j, hj => by simp at hj
  | q :: l, h, j, hj => by
    simp only [grdW] at h
    split at h
    · rename_i h1; exact absurd h h1
    · rename_i h1
      rcases List.mem_cons.1 hj with rfl | hj
      · omega
      · exact grdW_mem h j hj
theorem grd_good {l : List Grade} (h : grdErr l = 0) : l.length ≤ 24 ∧ ∀ g ∈ l, g.1.length ≤ 60 ∧ g.2.length ≤ 60 := by
  unfold grdErr at h
  split at h
  · cases h
  · split at h
    · rename_i h1; exact absurd h h1
    · refine ⟨by omega, fun g hg => ?_⟩
      have := wordsErr_two.1 (grdW_mem (l := l) (by omega) g hg)
      exact ⟨wordErr_len this.1, wordErr_len this.2⟩

/-- A word with a stretch of it exchanged. -/
def turnL (w : List Str) (a b : Nat) (x : List Str) : List Str := w.take a ++ (x ++ w.drop b)
/-- ablaut/harm.turned: 4 parameters, 0 captured -/
def s78 : SC := .seq (.reg [⟨(some 8), .mv (.c (.slice none 0 0)), none⟩,
     ⟨(some 9), .mv (.c (.bool false)), none⟩,
     ⟨(some 10), .mv (.c (.int .i64 0)), none⟩])
  (.seq (.regD [⟨(some 14), .mv (.t 0), none⟩,
      ⟨(some 15), .mv (.t 1), none⟩,
      ⟨(some 16), .sl 1 (.t 14) none (some (.t 15)), none⟩,
      ⟨(some 17), .mv (.t 3), none⟩,
      ⟨(some 18), .mv (.t 0), none⟩,
      ⟨(some 19), .mv (.t 2), none⟩,
      ⟨(some 20), .sl 1 (.t 18) (some (.t 19)) none, none⟩,
      ⟨(some 21), .buildSl 22 1 3 [(.slice none 0 0)] [(0, 1, (.t 16)), (1, 1, (.t 17)), (2, 1, (.t 20))], none⟩,
      ⟨(some 22), .call (.f 75) [(.t 21)], none⟩,
      ⟨(some 23), .call (.f 68) [(.t 22)], none⟩,
      ⟨(some 13), .mv (.t 23), none⟩,
      ⟨(some 24), .ext (.t 13) 0, none⟩,
      ⟨(some 25), .ext (.t 13) 1, none⟩,
      ⟨(some 11), .mv (.t 24), none⟩,
      ⟨(some 12), .mv (.t 25), none⟩])
   (.seq (.reg [⟨(some 26), .mv (.t 11), none⟩,
       ⟨(some 27), .mv (.t 12), none⟩,
       ⟨(some 28), .bin .eql (.t 27) (.c (.int .i64 0)), none⟩,
       ⟨(some 29), .mv (.t 12), none⟩,
       ⟨(some 8), .mv (.t 26), none⟩,
       ⟨(some 9), .mv (.t 28), none⟩,
       ⟨(some 10), .mv (.t 29), none⟩])
    (.ret)))
theorem s78_ok : lookF Try.prog 78 = some (s78, 30, [.tmp 8, .tmp 9, .tmp 10]) := by kernel_rfl
theorem turned_ok (w x : List Str) (a b : Nat) (ha : a ≤ w.length) (hb : b ≤ w.length) (hw : w.length ≤ 1000000) (hx : x.length ≤ 1000000) : Fn P 78 [sl w, intA a, intA b, sl x] (.tup [sl (heldV (turnL w a b x)), boolA (decide (heldE (turnL w a b x) = 0)), intA (heldE (turnL w a b x))]) := by
  have k1 := concatS_ok [w.take a, x, w.drop b] (by simp) (by simp; omega)
  have ej : List.flatten [w.take a, x, w.drop b] = turnL w a b x := by simp [turnL]
  have e2 : List.take (w.length - b) (List.drop b w) = List.drop b w := List.take_of_length_le (by simp)
  have e3 : List.take (a - 0) w = List.take a w := rfl
  have k2 := held_ok (turnL w a b x)
  rw [ej] at k1
  (refine fn_look s78_ok (by simp) (by intro k; simp only [go_sem, Nat.reduceEqDiff, ↓reduceIte, reduceCtorEq, Nat.reduceAdd, Nat.reduceMul, Int.reduceToNat, List.reduceReplicate, Nat.reduceLeDiff, Nat.reduceLT, Int.reduceLT, Int.reduceLE, Int.reduceEq]) fun S hS => cwp_sound _ _ _ _ ?_; simp (disch := omega) only [s78, go_sem, Nat.reduceEqDiff, ↓reduceIte, reduceCtorEq, Nat.reduceAdd, Nat.reduceMul, Int.reduceToNat, List.reduceReplicate, Nat.reduceLeDiff, Nat.reduceLT, Int.reduceLT, Int.reduceLE, Int.reduceEq])
  repeat' (first | (with_reducible refine in_seq ?_) | (with_reducible refine in_reg ?_) | (with_reducible refine in_block ?_) | (with_reducible refine in_cond ?_) | (with_reducible refine in_ret ?_) | (with_reducible refine in_skip ?_) | (simp (disch := omega) only [go_sem, Nat.reduceEqDiff, ↓reduceIte, reduceCtorEq, Nat.reduceAdd, Nat.reduceMul, Int.reduceToNat, List.reduceReplicate, Nat.reduceLeDiff, Nat.reduceLT, Int.reduceLT, Int.reduceLE, Int.reduceEq, e2, e3]) | (with_reducible refine giv_intro fun _h => ?_) | (with_reducible refine alt_intro ?_ (fun _h => ?_)) | ((first | with_reducible refine br_dec (fun _h => ?_) (fun _h => ?_) | with_reducible refine br_ndec (fun _h => ?_) (fun _h => ?_)) <;> (first | (exfalso; omega) | simp only [decide_eq_false _h] | simp only [decide_eq_true _h] | skip)) | ((first | with_reducible refine br_not (fun _h => ?_) (fun _h => ?_) | with_reducible refine br_var (fun _h => ?_) (fun _h => ?_)) <;> (try simp only [_h])) | ((with_reducible apply call_D (k1)); (focus (simp (disch := omega) only [go_sem, Nat.reduceEqDiff, ↓reduceIte, reduceCtorEq, Nat.reduceAdd, Nat.reduceMul, Int.reduceToNat, List.reduceReplicate, Nat.reduceLeDiff, Nat.reduceLT, Int.reduceLT, Int.reduceLE, Int.reduceEq, e2, e3]; (try rfl); done))) | ((with_reducible apply call_D (k2)); (focus (simp (disch := omega) only [go_sem, Nat.reduceEqDiff, ↓reduceIte, reduceCtorEq, Nat.reduceAdd, Nat.reduceMul, Int.reduceToNat, List.reduceReplicate, Nat.reduceLeDiff, Nat.reduceLT, Int.reduceLT, Int.reduceLE, Int.reduceEq, e2, e3]; (try rfl); done))) | fail)
/-- The last vowel's place and the one's ahead of it. -/
def st2 (v : Str → Bool) (w : List Str) : Nat → Int × Int
  | 0 => (-1, -1)
  | i + 1 => if v (nth w i) = true then ((st2 v w i).2, (i : Int)) else st2 v w i
theorem st2_range (v : Str → Bool) (w : List Str) : ∀ i : Nat, -1 ≤ (st2 v w i).1 ∧ -1 ≤ (st2 v w i).2 ∧ (st2 v w i).2 < i ∧ ((st2 v w i).1 < (st2 v w i).2 ∨ (st2 v w i).1 = -1)
  | 0 => by simp [st2]
  | i + 1 => by
    have := st2_range v w i
    simp only [st2]
    split
    · dsimp only; omega
    · omega
def grMid (w : List Str) (a b : Int) : List Str := List.take (b.toNat - (a + 1).toNat) (List.drop (a + 1).toNat w)
/-- What the first grade makes that fits. -/
def grFind (w : List Str) (a b : Int) : List Grade → List Str × Bool × Int
  | [] => (w, false, 0)
  | g :: l => if g.1 = grMid w a b then (heldV (turnL w (a + 1).toNat b.toNat g.2), decide (heldE (turnL w (a + 1).toNat b.toNat g.2) = 0), heldE (turnL w (a + 1).toNat b.toNat g.2)) else grFind w a b l
def gradeE0 (l : List Grade) (s : List Sound) (w : List Str) : Int := firstE [grdErr l, sndErr s, wordsErr [w]]
def gradeT (l : List Grade) (s : List Sound) (w : List Str) : List Str × Bool × Int :=
  if gradeE0 l s w ≠ 0 then ([], false, gradeE0 l s w) else if 0 ≤ (st2 (vowR s) w w.length).1 then grFind w (st2 (vowR s) w w.length).1 (st2 (vowR s) w w.length).2 l else (w, false, 0)
theorem firstThree (a b c : Int) : firstE [a, b, c] = if a ≠ 0 then a else firstE [b, c] := rfl
theorem three_zero {a b c : Int} (h : firstE [a, b, c] = 0) : a = 0 ∧ b = 0 ∧ c = 0 := by
  rw [firstThree] at h
  split at h
  · rename_i h1; exact absurd h h1
  · rename_i h1; exact ⟨by omega, two_zero h⟩
/-- ablaut/ablautref13.stretch: 2 parameters, 0 captured -/
def s81 : SC := .seq (.reg [⟨(some 2), .box 37 1 (.t 0), none⟩,
     ⟨(some 4), .mv (.c (.int .i64 0)), none⟩,
     ⟨(some 5), .mv (.c (.int .i64 0)), none⟩,
     ⟨(some 6), .mv (.c (.bool false)), none⟩])
  (.seq (.reg [⟨(some 7), .mv (.c (.int .i64 (-1))), none⟩,
      ⟨(some 8), .mv (.c (.int .i64 (-1))), none⟩])
   (.seq (.seq (.reg [⟨(some 9), .mv (.c (.int .i64 0)), none⟩])
     (.block 0 (.loop (.seq (.seq (.reg [⟨(some 10), .mv (.t 9), none⟩,
            ⟨(some 11), .mv (.t 1), none⟩,
            ⟨(some 12), .lenL (.t 11), none⟩,
            ⟨(some 13), .bin .lss (.t 10) (.t 12), none⟩])
         (.cond (.t 13) (.skip) (.exit 0)))
        (.seq (.block 1 (.seq (.regD [⟨(some 16), .load (some 1) (.t 2), none⟩,
              ⟨(some 17), .mv (.t 1), none⟩,
              ⟨(some 18), .mv (.t 9), none⟩,
              ⟨(some 19), .iaddr 1 (.t 17) (.t 18), none⟩,
              ⟨(some 20), .load none (.t 19), none⟩,
              ⟨(some 21), .call (.f 76) [(.t 16), (.t 20)], none⟩])
           (.cond (.t 21) (.reg [⟨(some 22), .mv (.t 7), none⟩,
               ⟨(some 23), .mv (.t 9), none⟩,
               ⟨(some 8), .mv (.t 22), none⟩,
               ⟨(some 7), .mv (.t 23), none⟩]) (.skip))))
         (.reg [⟨(some 14), .mv (.t 9), none⟩,
            ⟨(some 15), .bin .add (.t 14) (.c (.int .i64 1)), none⟩,
            ⟨(some 9), .mv (.t 15), none⟩]))))))
    (.seq (.reg [⟨(some 24), .mv (.t 8), none⟩,
        ⟨(some 25), .bin .add (.t 24) (.c (.int .i64 1)), none⟩,
        ⟨(some 26), .mv (.t 7), none⟩,
        ⟨(some 27), .mv (.t 8), none⟩,
        ⟨(some 28), .bin .geq (.t 27) (.c (.int .i64 0)), none⟩,
        ⟨(some 4), .mv (.t 25), none⟩,
        ⟨(some 5), .mv (.t 26), none⟩,
        ⟨(some 6), .mv (.t 28), none⟩])
     (.ret))))
theorem s81_ok : lookF Try.prog 81 = some (s81, 29, [.tmp 4, .tmp 5, .tmp 6]) := by kernel_rfl
theorem stretch_ok (s : List Sound) (w : List Str) (hw : w.length ≤ 1000000) : Fn P 81 [sndA s, sl w] (.tup [intA ((st2 (vowR s) w w.length).1 + 1), intA (st2 (vowR s) w w.length).2, boolA (decide (0 ≤ (st2 (vowR s) w w.length).1))]) := by
  (refine fn_look s81_ok (by simp) (by intro k; simp only [go_sem, Nat.reduceEqDiff, ↓reduceIte, reduceCtorEq, Nat.reduceAdd, Nat.reduceMul, Int.reduceToNat, List.reduceReplicate, Nat.reduceLeDiff, Nat.reduceLT, Int.reduceLT, Int.reduceLE, Int.reduceEq]) fun S hS => cwp_sound _ _ _ _ ?_; simp (disch := omega) only [s81, go_sem, Nat.reduceEqDiff, ↓reduceIte, reduceCtorEq, Nat.reduceAdd, Nat.reduceMul, Int.reduceToNat, List.reduceReplicate, Nat.reduceLeDiff, Nat.reduceLT, Int.reduceLT, Int.reduceLE, Int.reduceEq])
  repeat' (first | (with_reducible refine in_seq ?_) | (with_reducible refine in_reg ?_) | (with_reducible refine in_block ?_) | (with_reducible refine in_cond ?_) | (with_reducible refine in_ret ?_) | (with_reducible refine in_skip ?_) | (simp (disch := omega) only [go_sem, Nat.reduceEqDiff, ↓reduceIte, reduceCtorEq, Nat.reduceAdd, Nat.reduceMul, Int.reduceToNat, List.reduceReplicate, Nat.reduceLeDiff, Nat.reduceLT, Int.reduceLT, Int.reduceLE, Int.reduceEq]) | (with_reducible refine giv_intro fun _h => ?_) | (with_reducible refine alt_intro ?_ (fun _h => ?_)) | ((first | with_reducible refine br_dec (fun _h => ?_) (fun _h => ?_) | with_reducible refine br_ndec (fun _h => ?_) (fun _h => ?_)) <;> (first | (exfalso; omega) | simp only [decide_eq_false _h] | simp only [decide_eq_true _h] | skip)) | ((first | with_reducible refine br_not (fun _h => ?_) (fun _h => ?_) | with_reducible refine br_var (fun _h => ?_) (fun _h => ?_)) <;> (try simp only [_h])) | fail)
  (refine loopC hS [1, 2] (by simp only [go_sem, Nat.reduceEqDiff, ↓reduceIte, reduceCtorEq, Nat.reduceAdd, Nat.reduceMul, Int.reduceToNat, List.reduceReplicate, Nat.reduceLeDiff, Nat.reduceLT, Int.reduceLT, Int.reduceLE, Int.reduceEq]; try rfl) (fun (i : Nat) => [(7, intA (st2 (vowR s) w i).2), (8, intA (st2 (vowR s) w i).1), (9, intA i)]) (fun (i : Nat) => [some (.row 37 1 [sl s])]) (fun (i : Nat) => i ≤ w.length) (fun (i : Nat) => w.length - i) (0) ?h05 ?hn5 ?rd5; case hn5 => (intro s; first | rfl | (rcases s with ⟨_, _⟩; rfl) | (rcases s with ⟨_, _, _⟩; rfl) | (rcases s with ⟨_, _, _, _⟩; rfl) | (rcases s with ⟨_, _, _, _, _⟩; rfl)))
  · simp (disch := omega) only [go_sem, Nat.reduceEqDiff, ↓reduceIte, reduceCtorEq, Nat.reduceAdd, Nat.reduceMul, Int.reduceToNat, List.reduceReplicate, Nat.reduceLeDiff, Nat.reduceLT, Int.reduceLT, Int.reduceLE, Int.reduceEq]; simp [st2]
  rintro i hi
  replace hi : i ≤ w.length := hi
  have hr := st2_range (vowR s) w i
  by_cases hil : i < w.length
  · have d1 := isVowel_ok s (nth w i)
    repeat' (first | (with_reducible refine in_seq ?_) | (with_reducible refine in_reg ?_) | (with_reducible refine in_block ?_) | (with_reducible refine in_cond ?_) | (with_reducible refine in_ret ?_) | (with_reducible refine in_skip ?_) | (simp (disch := omega) only [go_sem, Nat.reduceEqDiff, ↓reduceIte, reduceCtorEq, Nat.reduceAdd, Nat.reduceMul, Int.reduceToNat, List.reduceReplicate, Nat.reduceLeDiff, Nat.reduceLT, Int.reduceLT, Int.reduceLE, Int.reduceEq]) | (with_reducible refine giv_intro fun _h => ?_) | (with_reducible refine alt_intro ?_ (fun _h => ?_)) | ((first | with_reducible refine br_dec (fun _h => ?_) (fun _h => ?_) | with_reducible refine br_ndec (fun _h => ?_) (fun _h => ?_)) <;> (first | (exfalso; omega) | simp only [decide_eq_false _h] | simp only [decide_eq_true _h] | skip)) | ((first | with_reducible refine br_not (fun _h => ?_) (fun _h => ?_) | with_reducible refine br_var (fun _h => ?_) (fun _h => ?_)) <;> (try simp only [_h])) | ((with_reducible apply call_D (d1)); (focus (simp (disch := omega) only [go_sem, Nat.reduceEqDiff, ↓reduceIte, reduceCtorEq, Nat.reduceAdd, Nat.reduceMul, Int.reduceToNat, List.reduceReplicate, Nat.reduceLeDiff, Nat.reduceLT, Int.reduceLT, Int.reduceLE, Int.reduceEq]; (try rfl); done))) | fail)
    · refine ⟨i + 1, ⟨by omega, by omega⟩, ?_⟩
      rw [st2, if_pos _h]; exact ⟨rfl, rfl, by omega⟩
    · refine ⟨i + 1, ⟨by omega, by omega⟩, ?_⟩
      rw [st2, if_neg (by rw [_h]; simp)]; exact ⟨rfl, rfl, by omega⟩
  · have : i = w.length := by omega
    subst this
    repeat' (first | (with_reducible refine in_seq ?_) | (with_reducible refine in_reg ?_) | (with_reducible refine in_block ?_) | (with_reducible refine in_cond ?_) | (with_reducible refine in_ret ?_) | (with_reducible refine in_skip ?_) | (simp (disch := omega) only [go_sem, Nat.reduceEqDiff, ↓reduceIte, reduceCtorEq, Nat.reduceAdd, Nat.reduceMul, Int.reduceToNat, List.reduceReplicate, Nat.reduceLeDiff, Nat.reduceLT, Int.reduceLT, Int.reduceLE, Int.reduceEq]) | (with_reducible refine giv_intro fun _h => ?_) | (with_reducible refine alt_intro ?_ (fun _h => ?_)) | ((first | with_reducible refine br_dec (fun _h => ?_) (fun _h => ?_) | with_reducible refine br_ndec (fun _h => ?_) (fun _h => ?_)) <;> (first | (exfalso; omega) | simp only [decide_eq_false _h] | simp only [decide_eq_true _h] | skip)) | ((first | with_reducible refine br_not (fun _h => ?_) (fun _h => ?_) | with_reducible refine br_var (fun _h => ?_) (fun _h => ?_)) <;> (try simp only [_h])) | fail)
end Go.Proofs.Ytpfoflhhbkjngaa.Ev

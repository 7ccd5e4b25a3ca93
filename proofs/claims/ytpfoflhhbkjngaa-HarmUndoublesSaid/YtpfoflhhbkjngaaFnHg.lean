/- Joints: which there are, and what they make of two words. -/
import Derived.Test.YtpfoflhhbkjngaaFnHd
set_option linter.unusedVariables false
set_option linter.unusedSimpArgs false
namespace Go.Proofs.Ytpfoflhhbkjngaa.Ev
open Go Go.Proofs

/-! ### how much there is in words: a number -/
def bytesI : List Str → Int → Int
  | [], n => n
  | s :: l, n => if n ≤ 32000 then bytesI l (IntKind.i64.wrap (n + s.size)) else n
def bytesO : List (List Str) → Int → Int
  | [], n => n
  | w :: ws, n => bytesO ws (bytesI w (IntKind.i64.wrap (n + IntKind.i64.wrap (1 + w.length))))
theorem bytesI_stop (l : List Str) {n : Int} (h : ¬ n ≤ 32000) : bytesI l n = n := by cases l <;> simp [bytesI, h]
theorem bytesF_ok (l : List (List Str)) : Fn P 16 [sl l] (intA (bytesO l 0)) := by
  (refine fn_look s16_ok (by simp) (by intro k; simp only [go_sem, Nat.reduceEqDiff, ↓reduceIte, reduceCtorEq, Nat.reduceAdd, Nat.reduceMul, Int.reduceToNat, List.reduceReplicate, Nat.reduceLeDiff, Nat.reduceLT, Int.reduceLT, Int.reduceLE, Int.reduceEq]) fun S hS => cwp_sound _ _ _ _ ?_; simp (disch := omega) only [s16, go_sem, Nat.reduceEqDiff, ↓reduceIte, reduceCtorEq, Nat.reduceAdd, Nat.reduceMul, Int.reduceToNat, List.reduceReplicate, Nat.reduceLeDiff, Nat.reduceLT, Int.reduceLT, Int.reduceLE, Int.reduceEq])
  (refine loopC hS [0] (by simp only [go_sem, Nat.reduceEqDiff, ↓reduceIte, reduceCtorEq, Nat.reduceAdd, Nat.reduceMul, Int.reduceToNat, List.reduceReplicate, Nat.reduceLeDiff, Nat.reduceLT, Int.reduceLT, Int.reduceLE, Int.reduceEq]; try rfl) (fun (⟨i, n⟩ : Nat × Int) => [(3, intA n), (4, intA i)]) (fun (⟨i, n⟩ : Nat × Int) => []) (fun (⟨i, n⟩ : Nat × Int) => i ≤ l.length ∧ bytesO l 0 = bytesO (l.drop i) n) (fun (⟨i, n⟩ : Nat × Int) => l.length - i) ((0, 0)) ?h01 ?hn1 ?rd1; case hn1 => (intro s; first | rfl | (rcases s with ⟨_, _⟩; rfl) | (rcases s with ⟨_, _, _⟩; rfl) | (rcases s with ⟨_, _, _, _⟩; rfl) | (rcases s with ⟨_, _, _, _, _⟩; rfl)))
  · simp (disch := omega) only [go_sem, Nat.reduceEqDiff, ↓reduceIte, reduceCtorEq, Nat.reduceAdd, Nat.reduceMul, Int.reduceToNat, List.reduceReplicate, Nat.reduceLeDiff, Nat.reduceLT, Int.reduceLT, Int.reduceLE, Int.reduceEq]; simp
  rintro ⟨i, n⟩ ⟨hi, hI⟩
  replace hi : i ≤ l.length := hi
  replace hI : bytesO l 0 = bytesO (l.drop i) n := hI
  by_cases hil : i < l.length
  · rw [nth_drop hil, bytesO] at hI
    repeat' (first | (with_reducible refine in_seq ?_) | (with_reducible refine in_reg ?_) | (with_reducible refine in_block ?_) | (with_reducible refine in_cond ?_) | (with_reducible refine in_ret ?_) | (with_reducible refine in_skip ?_) | (simp (disch := omega) only [go_sem, Nat.reduceEqDiff, ↓reduceIte, reduceCtorEq, Nat.reduceAdd, Nat.reduceMul, Int.reduceToNat, List.reduceReplicate, Nat.reduceLeDiff, Nat.reduceLT, Int.reduceLT, Int.reduceLE, Int.reduceEq]) | (with_reducible refine giv_intro fun _h => ?_) | (with_reducible refine alt_intro ?_ (fun _h => ?_)) | ((first | with_reducible refine br_dec (fun _h => ?_) (fun _h => ?_) | with_reducible refine br_ndec (fun _h => ?_) (fun _h => ?_)) <;> (first | (exfalso; omega) | simp only [decide_eq_false _h] | simp only [decide_eq_true _h] | skip)) | ((first | with_reducible refine br_not (fun _h => ?_) (fun _h => ?_) | with_reducible refine br_var (fun _h => ?_) (fun _h => ?_)) <;> (try simp only [_h])) | fail)
    (refine loopC hS [0, 4] (by simp only [go_sem, Nat.reduceEqDiff, ↓reduceIte, reduceCtorEq, Nat.reduceAdd, Nat.reduceMul, Int.reduceToNat, List.reduceReplicate, Nat.reduceLeDiff, Nat.reduceLT, Int.reduceLT, Int.reduceLE, Int.reduceEq]; try rfl) (fun (⟨k, n⟩ : Nat × Int) => [(3, intA n), (5, intA k)]) (fun (⟨k, n⟩ : Nat × Int) => []) (fun (⟨k, n⟩ : Nat × Int) => k ≤ (nth l i).length ∧ bytesO l 0 = bytesO (l.drop (i + 1)) (bytesI ((nth l i).drop k) n)) (fun (⟨k, n⟩ : Nat × Int) => (nth l i).length - k) ((0, IntKind.i64.wrap (n + IntKind.i64.wrap (1 + (nth l i).length)))) ?h02 ?hn2 ?rd2; case hn2 => (intro s; first | rfl | (rcases s with ⟨_, _⟩; rfl) | (rcases s with ⟨_, _, _⟩; rfl) | (rcases s with ⟨_, _, _, _⟩; rfl) | (rcases s with ⟨_, _, _, _, _⟩; rfl)))
    · simp (disch := omega) only [go_sem, Nat.reduceEqDiff, ↓reduceIte, reduceCtorEq, Nat.reduceAdd, Nat.reduceMul, Int.reduceToNat, List.reduceReplicate, Nat.reduceLeDiff, Nat.reduceLT, Int.reduceLT, Int.reduceLE, Int.reduceEq]; exact ⟨Nat.zero_le _, hI⟩
    rintro ⟨k, n⟩ ⟨hk, hK⟩
    replace hk : k ≤ (nth l i).length := hk
    replace hK : bytesO l 0 = bytesO (l.drop (i + 1)) (bytesI ((nth l i).drop k) n) := hK
    by_cases hkl : k < (nth l i).length
    · by_cases hn : n ≤ 32000
      · rw [nth_drop hkl, bytesI, if_pos hn] at hK
        repeat' (first | (with_reducible refine in_seq ?_) | (with_reducible refine in_reg ?_) | (with_reducible refine in_block ?_) | (with_reducible refine in_cond ?_) | (with_reducible refine in_ret ?_) | (with_reducible refine in_skip ?_) | (simp (disch := omega) only [go_sem, Nat.reduceEqDiff, ↓reduceIte, reduceCtorEq, Nat.reduceAdd, Nat.reduceMul, Int.reduceToNat, List.reduceReplicate, Nat.reduceLeDiff, Nat.reduceLT, Int.reduceLT, Int.reduceLE, Int.reduceEq]) | (with_reducible refine giv_intro fun _h => ?_) | (with_reducible refine alt_intro ?_ (fun _h => ?_)) | ((first | with_reducible refine br_dec (fun _h => ?_) (fun _h => ?_) | with_reducible refine br_ndec (fun _h => ?_) (fun _h => ?_)) <;> (first | (exfalso; omega) | simp only [decide_eq_false _h] | simp only [decide_eq_true _h] | skip)) | ((first | with_reducible refine br_not (fun _h => ?_) (fun _h => ?_) | with_reducible refine br_var (fun _h => ?_) (fun _h => ?_)) <;> (try simp only [_h])) | fail)
        exact ⟨(k + 1, _), ⟨by omega, by omega, hK⟩, rfl, by omega⟩
      · rw [bytesI_stop _ hn] at hK
        repeat' (first | (with_reducible refine in_seq ?_) | (with_reducible refine in_reg ?_) | (with_reducible refine in_block ?_) | (with_reducible refine in_cond ?_) | (with_reducible refine in_ret ?_) | (with_reducible refine in_skip ?_) | (simp (disch := omega) only [go_sem, Nat.reduceEqDiff, ↓reduceIte, reduceCtorEq, Nat.reduceAdd, Nat.reduceMul, Int.reduceToNat, List.reduceReplicate, Nat.reduceLeDiff, Nat.reduceLT, Int.reduceLT, Int.reduceLE, Int.reduceEq]) | (with_reducible refine giv_intro fun _h => ?_) | (with_reducible refine alt_intro ?_ (fun _h => ?_)) | ((first | with_reducible refine br_dec (fun _h => ?_) (fun _h => ?_) | with_reducible refine br_ndec (fun _h => ?_) (fun _h => ?_)) <;> (first | (exfalso; omega) | simp only [decide_eq_false _h] | simp only [decide_eq_true _h] | skip)) | ((first | with_reducible refine br_not (fun _h => ?_) (fun _h => ?_) | with_reducible refine br_var (fun _h => ?_) (fun _h => ?_)) <;> (try simp only [_h])) | fail)
        exact ⟨(i + 1, _), ⟨by omega, by omega, hK⟩, rfl, by omega⟩
    · rw [drop_end (l := nth l i) (by omega), bytesI] at hK
      repeat' (first | (with_reducible refine in_seq ?_) | (with_reducible refine in_reg ?_) | (with_reducible refine in_block ?_) | (with_reducible refine in_cond ?_) | (with_reducible refine in_ret ?_) | (with_reducible refine in_skip ?_) | (simp (disch := omega) only [go_sem, Nat.reduceEqDiff, ↓reduceIte, reduceCtorEq, Nat.reduceAdd, Nat.reduceMul, Int.reduceToNat, List.reduceReplicate, Nat.reduceLeDiff, Nat.reduceLT, Int.reduceLT, Int.reduceLE, Int.reduceEq]) | (with_reducible refine giv_intro fun _h => ?_) | (with_reducible refine alt_intro ?_ (fun _h => ?_)) | ((first | with_reducible refine br_dec (fun _h => ?_) (fun _h => ?_) | with_reducible refine br_ndec (fun _h => ?_) (fun _h => ?_)) <;> (first | (exfalso; omega) | simp only [decide_eq_false _h] | simp only [decide_eq_true _h] | skip)) | ((first | with_reducible refine br_not (fun _h => ?_) (fun _h => ?_) | with_reducible refine br_var (fun _h => ?_) (fun _h => ?_)) <;> (try simp only [_h])) | fail)
      exact ⟨(i + 1, _), ⟨by omega, by omega, hK⟩, rfl, by omega⟩
  · rw [drop_end (l := l) (by omega), bytesO] at hI
    repeat' (first | (with_reducible refine in_seq ?_) | (with_reducible refine in_reg ?_) | (with_reducible refine in_block ?_) | (with_reducible refine in_cond ?_) | (with_reducible refine in_ret ?_) | (with_reducible refine in_skip ?_) | (simp (disch := omega) only [go_sem, Nat.reduceEqDiff, ↓reduceIte, reduceCtorEq, Nat.reduceAdd, Nat.reduceMul, Int.reduceToNat, List.reduceReplicate, Nat.reduceLeDiff, Nat.reduceLT, Int.reduceLT, Int.reduceLE, Int.reduceEq]) | (with_reducible refine giv_intro fun _h => ?_) | (with_reducible refine alt_intro ?_ (fun _h => ?_)) | ((first | with_reducible refine br_dec (fun _h => ?_) (fun _h => ?_) | with_reducible refine br_ndec (fun _h => ?_) (fun _h => ?_)) <;> (first | (exfalso; omega) | simp only [decide_eq_false _h] | simp only [decide_eq_true _h] | skip)) | ((first | with_reducible refine br_not (fun _h => ?_) (fun _h => ?_) | with_reducible refine br_var (fun _h => ?_) (fun _h => ?_)) <;> (try simp only [_h])) | fail)
    rw [hI]

abbrev Joint := List Str × List Str × List Str
def jW (j : Joint) : Int := wordsErr [j.1, j.2.1, j.2.2]
def jntW : List Joint → Int
  | [] => 0
  | j :: l => if jW j ≠ 0 then jW j else jntW l
def wtJ (j : Joint) : Nat := j.1.length + j.2.1.length
def jntErr (l : List Joint) : Int := if 24 < l.length then 3 else if jntW l ≠ 0 then jntW l else if l.any (fun j => decide (wtJ j = 0)) = true then 1 else 0
theorem jntErr_3 {l : List Joint} (h : 24 < l.length) : jntErr l = 3 := by rw [jntErr, if_pos h]
theorem jntErr_w {l : List Joint} (h : ¬ 24 < l.length) (h2 : jntW l ≠ 0) : jntErr l = jntW l := by rw [jntErr, if_neg h, if_pos h2]
theorem jntErr_1 {l : List Joint} (h : ¬ 24 < l.length) (h2 : jntW l = 0) (h3 : l.any (fun j => decide (wtJ j = 0)) = true) : jntErr l = 1 := by rw [jntErr, if_neg h, if_neg (by omega), if_pos h3]
theorem jntErr_0 {l : List Joint} (h : ¬ 24 < l.length) (h2 : jntW l = 0) (h3 : l.any (fun j => decide (wtJ j = 0)) = false) : jntErr l = 0 := by rw [jntErr, if_neg h, if_neg (by omega), if_neg (by rw [h3]; simp)]
/-- slices.IndexFunc[[]ablaut/api.Joint,ablaut/api.Joint]: 2 parameters, 0 captured -/
def s141 : SC := .seq (.reg [⟨(some 4), .mv (.c (.int .i64 0)), none⟩])
  (.seq (.seq (.reg [⟨(some 6), .mv (.t 0), none⟩,
       ⟨(some 7), .lenL (.t 6), none⟩,
       ⟨(some 8), .mv (.c (.int .i64 0)), none⟩])
    (.block 0 (.loop (.seq (.reg [⟨(some 9), .bin .lss (.t 8) (.t 7), none⟩])
       (.seq (.cond (.t 9) (.skip) (.exit 0))
        (.seq (.block 1 (.seq (.reg [⟨(some 10), .mv (.t 8), none⟩,
              ⟨(some 5), .mv (.t 10), none⟩])
           (.seq (.reg [⟨(some 11), .mv (.t 1), none⟩,
               ⟨(some 12), .mv (.t 0), none⟩,
               ⟨(some 13), .mv (.t 5), none⟩,
               ⟨(some 14), .iaddr 3 (.t 12) (.t 13), none⟩,
               ⟨(some 15), .load (some 3) (.t 14), none⟩,
               ⟨(some 16), .call (.t 11) [(.t 15)], none⟩])
            (.cond (.t 16) (.seq (.reg [⟨(some 17), .mv (.t 5), none⟩,
                 ⟨(some 4), .mv (.t 17), none⟩])
              (.ret)) (.skip)))))
         (.reg [⟨(some 18), .bin .add (.t 8) (.c (.int .i64 1)), none⟩,
            ⟨(some 8), .mv (.t 18), none⟩])))))))
   (.seq (.reg [⟨(some 4), .mv (.c (.int .i64 (-1))), none⟩])
    (.ret)))
theorem s141_ok : lookF Try.prog 141 = some (s141, 19, [.tmp 4]) := by kernel_rfl
theorem jntIdx_ok (l : List Joint) (p : Joint → Bool) (g : FuncId) (caps : List AV) (hc : ∀ c ∈ caps, AV.Still c) (hp : ∀ x, x ∈ l → Fn P g (valA x :: caps) (boolA (p x))) :
    Fn P 141 [sl l, .clo g caps] (intA (match l.findIdx? p with | some i => (i : Int) | none => -1)) := by
  have h1 := caps_seen hc
  have h2 := caps_bel hc
  (refine fn_look s141_ok (by simp) (by intro k; simp only [go_sem, Nat.reduceEqDiff, ↓reduceIte, reduceCtorEq, Nat.reduceAdd, Nat.reduceMul, Int.reduceToNat, List.reduceReplicate, Nat.reduceLeDiff, Nat.reduceLT, Int.reduceLT, Int.reduceLE, Int.reduceEq]) fun S hS => cwp_sound _ _ _ _ ?_; simp (disch := omega) only [s141, go_sem, Nat.reduceEqDiff, ↓reduceIte, reduceCtorEq, Nat.reduceAdd, Nat.reduceMul, Int.reduceToNat, List.reduceReplicate, Nat.reduceLeDiff, Nat.reduceLT, Int.reduceLT, Int.reduceLE, Int.reduceEq])
  repeat' (first | (with_reducible refine in_seq ?_) | (with_reducible refine in_reg ?_) | (with_reducible refine in_block ?_) | (with_reducible refine in_cond ?_) | (with_reducible refine in_ret ?_) | (with_reducible refine in_skip ?_) | (simp (disch := omega) only [go_sem, Nat.reduceEqDiff, ↓reduceIte, reduceCtorEq, Nat.reduceAdd, Nat.reduceMul, Int.reduceToNat, List.reduceReplicate, Nat.reduceLeDiff, Nat.reduceLT, Int.reduceLT, Int.reduceLE, Int.reduceEq, h1, h2]) | (with_reducible refine giv_intro fun _h => ?_) | (with_reducible refine alt_intro ?_ (fun _h => ?_)) | ((first | with_reducible refine br_dec (fun _h => ?_) (fun _h => ?_) | with_reducible refine br_ndec (fun _h => ?_) (fun _h => ?_)) <;> (first | (exfalso; omega) | simp only [decide_eq_false _h] | simp only [decide_eq_true _h] | skip)) | ((first | with_reducible refine br_not (fun _h => ?_) (fun _h => ?_) | with_reducible refine br_var (fun _h => ?_) (fun _h => ?_)) <;> (try simp only [_h])) | fail)
  (refine loopC hS [0, 1, 7] (by simp only [go_sem, Nat.reduceEqDiff, ↓reduceIte, reduceCtorEq, Nat.reduceAdd, Nat.reduceMul, Int.reduceToNat, List.reduceReplicate, Nat.reduceLeDiff, Nat.reduceLT, Int.reduceLT, Int.reduceLE, Int.reduceEq]; try rfl) (fun (i : Nat) => [(8, intA i)]) (fun (i : Nat) => []) (fun (i : Nat) => i ≤ l.length ∧ l.findIdx? p = ((l.drop i).findIdx? p).map (· + i)) (fun (i : Nat) => l.length - i) (0) ?h03 ?hn3 ?rd3; case hn3 => (intro s; first | rfl | (rcases s with ⟨_, _⟩; rfl) | (rcases s with ⟨_, _, _⟩; rfl) | (rcases s with ⟨_, _, _, _⟩; rfl) | (rcases s with ⟨_, _, _, _, _⟩; rfl)))
  · simp (disch := omega) only [go_sem, Nat.reduceEqDiff, ↓reduceIte, reduceCtorEq, Nat.reduceAdd, Nat.reduceMul, Int.reduceToNat, List.reduceReplicate, Nat.reduceLeDiff, Nat.reduceLT, Int.reduceLT, Int.reduceLE, Int.reduceEq]; simp
  rintro i ⟨hi, hI⟩
  replace hi : i ≤ l.length := hi
  replace hI : l.findIdx? p = ((l.drop i).findIdx? p).map (· + i) := hI
  repeat' (first | (with_reducible refine in_seq ?_) | (with_reducible refine in_reg ?_) | (with_reducible refine in_block ?_) | (with_reducible refine in_cond ?_) | (with_reducible refine in_ret ?_) | (with_reducible refine in_skip ?_) | (simp (disch := omega) only [go_sem, Nat.reduceEqDiff, ↓reduceIte, reduceCtorEq, Nat.reduceAdd, Nat.reduceMul, Int.reduceToNat, List.reduceReplicate, Nat.reduceLeDiff, Nat.reduceLT, Int.reduceLT, Int.reduceLE, Int.reduceEq, h1, h2]) | (with_reducible refine giv_intro fun _h => ?_) | (with_reducible refine alt_intro ?_ (fun _h => ?_)) | ((first | with_reducible refine br_dec (fun _h => ?_) (fun _h => ?_) | with_reducible refine br_ndec (fun _h => ?_) (fun _h => ?_)) <;> (first | (exfalso; omega) | simp only [decide_eq_false _h] | simp only [decide_eq_true _h] | skip)) | ((first | with_reducible refine br_not (fun _h => ?_) (fun _h => ?_) | with_reducible refine br_var (fun _h => ?_) (fun _h => ?_)) <;> (try simp only [_h])) | ((with_reducible apply call (hp _ (nth_mem (by assumption)))); (focus (simp (disch := omega) only [go_sem, Nat.reduceEqDiff, ↓reduceIte, reduceCtorEq, Nat.reduceAdd, Nat.reduceMul, Int.reduceToNat, List.reduceReplicate, Nat.reduceLeDiff, Nat.reduceLT, Int.reduceLT, Int.reduceLE, Int.reduceEq, h1, h2]; (try rfl); done))) | fail)
  · rw [hI, nth_drop (by assumption)]
    simp_all [List.findIdx?_cons]
  · refine ⟨i + 1, ⟨by omega, by omega, ?_⟩, by omega⟩
    rw [hI, nth_drop (by assumption), List.findIdx?_cons]
    simp_all [Function.comp_def, Nat.add_comm, Nat.add_left_comm]
  · rw [hI, List.drop_eq_nil_of_le (by omega)]; rfl
/-- slices.ContainsFunc[[]ablaut/api.Joint,ablaut/api.Joint]: 2 parameters, 0 captured -/
def s113 : SC := .seq (.reg [⟨(some 4), .mv (.c (.bool false)), none⟩])
  (.seq (.reg [⟨(some 5), .mv (.t 0), none⟩,
      ⟨(some 6), .mv (.t 1), none⟩,
      ⟨(some 7), .call (.f 141) [(.t 5), (.t 6)], none⟩,
      ⟨(some 8), .bin .geq (.t 7) (.c (.int .i64 0)), none⟩,
      ⟨(some 4), .mv (.t 8), none⟩])
   (.ret))
theorem s113_ok : lookF Try.prog 113 = some (s113, 9, [.tmp 4]) := by kernel_rfl
theorem jntAny_ok (l : List Joint) (p : Joint → Bool) (g : FuncId) (caps : List AV) (hc : ∀ c ∈ caps, AV.Still c) (hp : ∀ x, x ∈ l → Fn P g (valA x :: caps) (boolA (p x))) :
    Fn P 113 [sl l, .clo g caps] (boolA (l.any p)) := by
  have h1 := caps_seen hc
  have h2 := caps_bel hc
  (refine fn_look s113_ok (by simp) (by intro k; simp only [go_sem, Nat.reduceEqDiff, ↓reduceIte, reduceCtorEq, Nat.reduceAdd, Nat.reduceMul, Int.reduceToNat, List.reduceReplicate, Nat.reduceLeDiff, Nat.reduceLT, Int.reduceLT, Int.reduceLE, Int.reduceEq]) fun S hS => cwp_sound _ _ _ _ ?_; simp (disch := omega) only [s113, go_sem, Nat.reduceEqDiff, ↓reduceIte, reduceCtorEq, Nat.reduceAdd, Nat.reduceMul, Int.reduceToNat, List.reduceReplicate, Nat.reduceLeDiff, Nat.reduceLT, Int.reduceLT, Int.reduceLE, Int.reduceEq])
  repeat' (first | (with_reducible refine in_seq ?_) | (with_reducible refine in_reg ?_) | (with_reducible refine in_block ?_) | (with_reducible refine in_cond ?_) | (with_reducible refine in_ret ?_) | (with_reducible refine in_skip ?_) | (simp (disch := omega) only [go_sem, Nat.reduceEqDiff, ↓reduceIte, reduceCtorEq, Nat.reduceAdd, Nat.reduceMul, Int.reduceToNat, List.reduceReplicate, Nat.reduceLeDiff, Nat.reduceLT, Int.reduceLT, Int.reduceLE, Int.reduceEq, h1, h2]) | (with_reducible refine giv_intro fun _h => ?_) | (with_reducible refine alt_intro ?_ (fun _h => ?_)) | ((first | with_reducible refine br_dec (fun _h => ?_) (fun _h => ?_) | with_reducible refine br_ndec (fun _h => ?_) (fun _h => ?_)) <;> (first | (exfalso; omega) | simp only [decide_eq_false _h] | simp only [decide_eq_true _h] | skip)) | ((first | with_reducible refine br_not (fun _h => ?_) (fun _h => ?_) | with_reducible refine br_var (fun _h => ?_) (fun _h => ?_)) <;> (try simp only [_h])) | ((with_reducible apply call (jntIdx_ok l p g caps hc hp)); (focus (simp (disch := omega) only [go_sem, Nat.reduceEqDiff, ↓reduceIte, reduceCtorEq, Nat.reduceAdd, Nat.reduceMul, Int.reduceToNat, List.reduceReplicate, Nat.reduceLeDiff, Nat.reduceLT, Int.reduceLT, Int.reduceLE, Int.reduceEq, h1, h2]; (try rfl); done))) | fail)
  exact findIdx_anyG
theorem words_len {a b c : List Str} (h : wordsErr [a, b, c] = 0) : a.length ≤ 60 ∧ b.length ≤ 60 ∧ c.length ≤ 60 := by
  simp only [wordsErr] at h
  split at h
  · rename_i h1; exact absurd h h1
  · split at h
    · rename_i h1; exact absurd h h1
    · split at h
      · rename_i h1; exact absurd h h1
      · rename_i h1 h2 h3
        exact ⟨wordErr_len (by omega), wordErr_len (by omega), wordErr_len (by omega)⟩
theorem jntW_mem : ∀ {l : List Joint}, jntW l = 0 → ∀ j ∈ l, jW j = 0
  | [], _, j, hj => by simp at hj
  | q :: l, h, j, hj => by
    simp only [jntW] at h
    split at h
    · rename_i h1; exact absurd h h1
    · rename_i h1
      rcases List.mem_cons.1 hj with rfl | hj
      · omega
      · exact jntW_mem h j hj
theorem jnt_len {l : List Joint} (h : jntW l = 0) {j : Joint} (hj : j ∈ l) : j.1.length ≤ 60 ∧ j.2.1.length ≤ 60 ∧ j.2.2.length ≤ 60 := words_len (jntW_mem h j hj)
/-- ablaut/harm.joints$1: 1 parameters, 0 captured -/
def s114 : SC := .seq (.reg [⟨(some 1), .box 83 3 (.t 0), none⟩,
     ⟨(some 2), .mv (.c (.bool false)), none⟩])
  (.seq (.reg [⟨(some 3), .faddr 0 (.t 1), none⟩,
      ⟨(some 4), .load none (.t 3), none⟩,
      ⟨(some 5), .lenL (.t 4), none⟩,
      ⟨(some 6), .faddr 1 (.t 1), none⟩,
      ⟨(some 7), .load none (.t 6), none⟩,
      ⟨(some 8), .lenL (.t 7), none⟩,
      ⟨(some 9), .bin .add (.t 5) (.t 8), none⟩,
      ⟨(some 10), .bin .eql (.t 9) (.c (.int .i64 0)), none⟩,
      ⟨(some 2), .mv (.t 10), none⟩])
   (.ret))
theorem s114_ok : lookF Try.prog 114 = some (s114, 11, [.tmp 2]) := by kernel_rfl
theorem jntZero_ok (j : Joint) (h : j.1.length ≤ 60 ∧ j.2.1.length ≤ 60) : Fn P 114 [valA j] (boolA (decide (wtJ j = 0))) := by
  (refine fn_look s114_ok (by simp) (by intro k; simp only [go_sem, Nat.reduceEqDiff, ↓reduceIte, reduceCtorEq, Nat.reduceAdd, Nat.reduceMul, Int.reduceToNat, List.reduceReplicate, Nat.reduceLeDiff, Nat.reduceLT, Int.reduceLT, Int.reduceLE, Int.reduceEq]) fun S hS => cwp_sound _ _ _ _ ?_; simp (disch := omega) only [s114, go_sem, Nat.reduceEqDiff, ↓reduceIte, reduceCtorEq, Nat.reduceAdd, Nat.reduceMul, Int.reduceToNat, List.reduceReplicate, Nat.reduceLeDiff, Nat.reduceLT, Int.reduceLT, Int.reduceLE, Int.reduceEq])
  repeat' (first | (with_reducible refine in_seq ?_) | (with_reducible refine in_reg ?_) | (with_reducible refine in_block ?_) | (with_reducible refine in_cond ?_) | (with_reducible refine in_ret ?_) | (with_reducible refine in_skip ?_) | (simp (disch := omega) only [go_sem, Nat.reduceEqDiff, ↓reduceIte, reduceCtorEq, Nat.reduceAdd, Nat.reduceMul, Int.reduceToNat, List.reduceReplicate, Nat.reduceLeDiff, Nat.reduceLT, Int.reduceLT, Int.reduceLE, Int.reduceEq]) | (with_reducible refine giv_intro fun _h => ?_) | (with_reducible refine alt_intro ?_ (fun _h => ?_)) | ((first | with_reducible refine br_dec (fun _h => ?_) (fun _h => ?_) | with_reducible refine br_ndec (fun _h => ?_) (fun _h => ?_)) <;> (first | (exfalso; omega) | simp only [decide_eq_false _h] | simp only [decide_eq_true _h] | skip)) | ((first | with_reducible refine br_not (fun _h => ?_) (fun _h => ?_) | with_reducible refine br_var (fun _h => ?_) (fun _h => ?_)) <;> (try simp only [_h])) | fail)
  rw [Bool.eq_iff_iff, decide_eq_true_iff, decide_eq_true_iff, wtJ]; omega
/-- ablaut/harm.joints: 1 parameters, 0 captured -/
def s67 : SC := .seq (.reg [⟨(some 2), .mv (.c (.int .i64 0)), none⟩])
  (.seq (.seq (.reg [⟨(some 6), .mv (.t 0), none⟩,
       ⟨(some 7), .lenL (.t 6), none⟩,
       ⟨(some 8), .bin .gtr (.t 7) (.c (.int .i64 24)), none⟩])
    (.cond (.t 8) (.seq (.reg [⟨(some 2), .mv (.c (.int .i64 3)), none⟩])
      (.ret)) (.skip)))
   (.seq (.seq (.reg [⟨(some 9), .mv (.t 0), none⟩,
        ⟨(some 10), .lenL (.t 9), none⟩,
        ⟨(some 11), .mv (.c (.int .i64 0)), none⟩])
     (.block 0 (.loop (.seq (.reg [⟨(some 12), .bin .lss (.t 11) (.t 10), none⟩])
        (.seq (.cond (.t 12) (.skip) (.exit 0))
         (.seq (.block 1 (.seq (.reg [⟨(some 13), .iaddr 3 (.t 9) (.t 11), none⟩,
               ⟨(some 14), .load (some 3) (.t 13), none⟩,
               ⟨(some 4), .alloc 83 3 [(.slice none 0 0), (.slice none 0 0), (.slice none 0 0)], none⟩,
               ⟨none, .store 3 (.t 4) (.t 14), none⟩])
            (.seq (.reg [⟨(some 15), .faddr 0 (.t 4), none⟩,
                ⟨(some 16), .load none (.t 15), none⟩,
                ⟨(some 17), .faddr 1 (.t 4), none⟩,
                ⟨(some 18), .load none (.t 17), none⟩,
                ⟨(some 19), .faddr 2 (.t 4), none⟩,
                ⟨(some 20), .load none (.t 19), none⟩,
                ⟨(some 21), .buildSl 22 1 3 [(.slice none 0 0)] [(0, 1, (.t 16)), (1, 1, (.t 18)), (2, 1, (.t 20))], none⟩,
                ⟨(some 22), .call (.f 53) [(.t 21)], none⟩,
                ⟨(some 5), .mv (.t 22), none⟩])
             (.seq (.reg [⟨(some 23), .mv (.t 5), none⟩,
                 ⟨(some 24), .bin .neq (.t 23) (.c (.int .i64 0)), none⟩])
              (.cond (.t 24) (.seq (.reg [⟨(some 25), .mv (.t 5), none⟩,
                   ⟨(some 2), .mv (.t 25), none⟩])
                (.ret)) (.skip))))))
          (.reg [⟨(some 26), .bin .add (.t 11) (.c (.int .i64 1)), none⟩,
             ⟨(some 11), .mv (.t 26), none⟩])))))))
    (.seq (.seq (.reg [⟨(some 27), .mv (.t 0), none⟩,
         ⟨(some 28), .call (.f 113) [(.t 27), (.f 114)], none⟩])
      (.cond (.t 28) (.seq (.reg [⟨(some 2), .mv (.c (.int .i64 1)), none⟩])
        (.ret)) (.skip)))
     (.seq (.reg [⟨(some 2), .mv (.c (.int .i64 0)), none⟩])
      (.ret)))))
theorem s67_ok : lookF Try.prog 67 = some (s67, 29, [.tmp 2]) := by kernel_rfl
set_option maxHeartbeats 1000000 in
theorem hJoints_ok (l : List Joint) : Fn P 67 [sl l] (intA (jntErr l)) := by
  (refine fn_look s67_ok (by simp) (by intro k; simp only [go_sem, Nat.reduceEqDiff, ↓reduceIte, reduceCtorEq, Nat.reduceAdd, Nat.reduceMul, Int.reduceToNat, List.reduceReplicate, Nat.reduceLeDiff, Nat.reduceLT, Int.reduceLT, Int.reduceLE, Int.reduceEq]) fun S hS => cwp_sound _ _ _ _ ?_; simp (disch := omega) only [s67, go_sem, Nat.reduceEqDiff, ↓reduceIte, reduceCtorEq, Nat.reduceAdd, Nat.reduceMul, Int.reduceToNat, List.reduceReplicate, Nat.reduceLeDiff, Nat.reduceLT, Int.reduceLT, Int.reduceLE, Int.reduceEq])
  repeat' (first | (with_reducible refine in_seq ?_) | (with_reducible refine in_reg ?_) | (with_reducible refine in_block ?_) | (with_reducible refine in_cond ?_) | (with_reducible refine in_ret ?_) | (with_reducible refine in_skip ?_) | (simp (disch := omega) only [go_sem, Nat.reduceEqDiff, ↓reduceIte, reduceCtorEq, Nat.reduceAdd, Nat.reduceMul, Int.reduceToNat, List.reduceReplicate, Nat.reduceLeDiff, Nat.reduceLT, Int.reduceLT, Int.reduceLE, Int.reduceEq]) | (with_reducible refine giv_intro fun _h => ?_) | (with_reducible refine alt_intro ?_ (fun _h => ?_)) | ((first | with_reducible refine br_dec (fun _h => ?_) (fun _h => ?_) | with_reducible refine br_ndec (fun _h => ?_) (fun _h => ?_)) <;> (first | (exfalso; omega) | simp only [decide_eq_false _h] | simp only [decide_eq_true _h] | skip)) | ((first | with_reducible refine br_not (fun _h => ?_) (fun _h => ?_) | with_reducible refine br_var (fun _h => ?_) (fun _h => ?_)) <;> (try simp only [_h])) | fail)
  · rw [jntErr_3 (by omega)]
  (refine loopC hS [0, 9, 10] (by simp only [go_sem, Nat.reduceEqDiff, ↓reduceIte, reduceCtorEq, Nat.reduceAdd, Nat.reduceMul, Int.reduceToNat, List.reduceReplicate, Nat.reduceLeDiff, Nat.reduceLT, Int.reduceLT, Int.reduceLE, Int.reduceEq]; try rfl) (fun (i : Nat) => [(11, intA i)]) (fun (i : Nat) => []) (fun (i : Nat) => i ≤ l.length ∧ jntW l = jntW (l.drop i)) (fun (i : Nat) => l.length - i) (0) ?h04 ?hn4 ?rd4; case hn4 => (intro s; first | rfl | (rcases s with ⟨_, _⟩; rfl) | (rcases s with ⟨_, _, _⟩; rfl) | (rcases s with ⟨_, _, _, _⟩; rfl) | (rcases s with ⟨_, _, _, _, _⟩; rfl)))
  · simp (disch := omega) only [go_sem, Nat.reduceEqDiff, ↓reduceIte, reduceCtorEq, Nat.reduceAdd, Nat.reduceMul, Int.reduceToNat, List.reduceReplicate, Nat.reduceLeDiff, Nat.reduceLT, Int.reduceLT, Int.reduceLE, Int.reduceEq]; simp
  rintro i ⟨hi, hI⟩
  replace hi : i ≤ l.length := hi
  replace hI : jntW l = jntW (l.drop i) := hI
  by_cases hil : i < l.length
  · rw [nth_drop hil, jntW] at hI
    have c1 := words_ok [(nth l i).1, (nth l i).2.1, (nth l i).2.2]
    rw [show wordsErr [(nth l i).1, (nth l i).2.1, (nth l i).2.2] = jW (nth l i) from rfl] at c1
    repeat' (first | (with_reducible refine in_seq ?_) | (with_reducible refine in_reg ?_) | (with_reducible refine in_block ?_) | (with_reducible refine in_cond ?_) | (with_reducible refine in_ret ?_) | (with_reducible refine in_skip ?_) | (simp (disch := omega) only [go_sem, Nat.reduceEqDiff, ↓reduceIte, reduceCtorEq, Nat.reduceAdd, Nat.reduceMul, Int.reduceToNat, List.reduceReplicate, Nat.reduceLeDiff, Nat.reduceLT, Int.reduceLT, Int.reduceLE, Int.reduceEq]) | (with_reducible refine giv_intro fun _h => ?_) | (with_reducible refine alt_intro ?_ (fun _h => ?_)) | ((first | with_reducible refine br_dec (fun _h => ?_) (fun _h => ?_) | with_reducible refine br_ndec (fun _h => ?_) (fun _h => ?_)) <;> (first | (exfalso; omega) | simp only [decide_eq_false _h] | simp only [decide_eq_true _h] | skip)) | ((first | with_reducible refine br_not (fun _h => ?_) (fun _h => ?_) | with_reducible refine br_var (fun _h => ?_) (fun _h => ?_)) <;> (try simp only [_h])) | ((with_reducible apply call_lend (c1)); (focus (simp (disch := omega) only [go_sem, Nat.reduceEqDiff, ↓reduceIte, reduceCtorEq, Nat.reduceAdd, Nat.reduceMul, Int.reduceToNat, List.reduceReplicate, Nat.reduceLeDiff, Nat.reduceLT, Int.reduceLT, Int.reduceLE, Int.reduceEq]; (try rfl); done)); (focus rfl)) | fail)
    · rw [jntErr_w (by omega) (by rw [hI, if_pos _h]; exact _h), hI, if_pos _h]
    · refine ⟨i + 1, ⟨by omega, by omega, ?_⟩, by omega⟩
      rw [hI, if_neg (by omega)]
  · rw [drop_end (by omega), jntW] at hI
    have c2 := jntAny_ok l (fun j => decide (wtJ j = 0)) 114 [] (by simp) fun j hj => jntZero_ok j (by have := jnt_len hI hj; omega)
    repeat' (first | (with_reducible refine in_seq ?_) | (with_reducible refine in_reg ?_) | (with_reducible refine in_block ?_) | (with_reducible refine in_cond ?_) | (with_reducible refine in_ret ?_) | (with_reducible refine in_skip ?_) | (simp (disch := omega) only [go_sem, Nat.reduceEqDiff, ↓reduceIte, reduceCtorEq, Nat.reduceAdd, Nat.reduceMul, Int.reduceToNat, List.reduceReplicate, Nat.reduceLeDiff, Nat.reduceLT, Int.reduceLT, Int.reduceLE, Int.reduceEq]) | (with_reducible refine giv_intro fun _h => ?_) | (with_reducible refine alt_intro ?_ (fun _h => ?_)) | ((first | with_reducible refine br_dec (fun _h => ?_) (fun _h => ?_) | with_reducible refine br_ndec (fun _h => ?_) (fun _h => ?_)) <;> (first | (exfalso; omega) | simp only [decide_eq_false _h] | simp only [decide_eq_true _h] | skip)) | ((first | with_reducible refine br_not (fun _h => ?_) (fun _h => ?_) | with_reducible refine br_var (fun _h => ?_) (fun _h => ?_)) <;> (try simp only [_h])) | ((with_reducible apply call (c2)); (focus (simp (disch := omega) only [go_sem, Nat.reduceEqDiff, ↓reduceIte, reduceCtorEq, Nat.reduceAdd, Nat.reduceMul, Int.reduceToNat, List.reduceReplicate, Nat.reduceLeDiff, Nat.reduceLT, Int.reduceLT, Int.reduceLE, Int.reduceEq]; (try rfl); done))) | fail)
    · rw [jntErr_1 (by omega) hI _h]
    · rw [jntErr_0 (by omega) hI _h]
/-- ablaut/ablautref13.Joints: 1 parameters, 0 captured -/
def s70 : SC := .seq (.reg [⟨(some 2), .mv (.c (.int .i64 0)), none⟩])
  (.seq (.seq (.reg [⟨(some 6), .mv (.t 0), none⟩,
       ⟨(some 7), .lenL (.t 6), none⟩,
       ⟨(some 8), .bin .gtr (.t 7) (.c (.int .i64 24)), none⟩])
    (.cond (.t 8) (.seq (.reg [⟨(some 2), .mv (.c (.int .i64 3)), none⟩])
      (.ret)) (.skip)))
   (.seq (.seq (.reg [⟨(some 3), .mv (.c (.int .i64 0)), none⟩])
     (.block 0 (.loop (.seq (.seq (.reg [⟨(some 9), .mv (.t 3), none⟩,
            ⟨(some 10), .mv (.t 0), none⟩,
            ⟨(some 11), .lenL (.t 10), none⟩,
            ⟨(some 12), .bin .lss (.t 9) (.t 11), none⟩])
         (.cond (.t 12) (.skip) (.exit 0)))
        (.seq (.block 1 (.seq (.regD [⟨(some 15), .mv (.t 0), none⟩,
              ⟨(some 16), .mv (.t 3), none⟩,
              ⟨(some 17), .iaddr 3 (.t 15) (.t 16), none⟩,
              ⟨(some 18), .faddr 0 (.t 17), none⟩,
              ⟨(some 19), .load none (.t 18), none⟩,
              ⟨(some 20), .mv (.t 0), none⟩,
              ⟨(some 21), .mv (.t 3), none⟩,
              ⟨(some 22), .iaddr 3 (.t 20) (.t 21), none⟩,
              ⟨(some 23), .faddr 1 (.t 22), none⟩,
              ⟨(some 24), .load none (.t 23), none⟩,
              ⟨(some 25), .mv (.t 0), none⟩,
              ⟨(some 26), .mv (.t 3), none⟩,
              ⟨(some 27), .iaddr 3 (.t 25) (.t 26), none⟩,
              ⟨(some 28), .faddr 2 (.t 27), none⟩,
              ⟨(some 29), .load none (.t 28), none⟩,
              ⟨(some 30), .buildSl 22 1 3 [(.slice none 0 0)] [(0, 1, (.t 19)), (1, 1, (.t 24)), (2, 1, (.t 29))], none⟩,
              ⟨(some 31), .call (.f 55) [(.t 30)], none⟩,
              ⟨(some 4), .mv (.t 31), none⟩])
           (.seq (.reg [⟨(some 32), .mv (.t 4), none⟩,
               ⟨(some 33), .bin .neq (.t 32) (.c (.int .i64 0)), none⟩])
            (.cond (.t 33) (.seq (.reg [⟨(some 34), .mv (.t 4), none⟩,
                 ⟨(some 2), .mv (.t 34), none⟩])
              (.ret)) (.skip)))))
         (.reg [⟨(some 13), .mv (.t 3), none⟩,
            ⟨(some 14), .bin .add (.t 13) (.c (.int .i64 1)), none⟩,
            ⟨(some 3), .mv (.t 14), none⟩]))))))
    (.seq (.seq (.reg [⟨(some 5), .mv (.c (.int .i64 0)), none⟩])
      (.block 2 (.loop (.seq (.seq (.reg [⟨(some 35), .mv (.t 5), none⟩,
             ⟨(some 36), .mv (.t 0), none⟩,
             ⟨(some 37), .lenL (.t 36), none⟩,
             ⟨(some 38), .bin .lss (.t 35) (.t 37), none⟩])
          (.cond (.t 38) (.skip) (.exit 2)))
         (.seq (.block 3 (.seq (.reg [⟨(some 41), .mv (.t 0), none⟩,
               ⟨(some 42), .mv (.t 5), none⟩,
               ⟨(some 43), .iaddr 3 (.t 41) (.t 42), none⟩,
               ⟨(some 44), .faddr 0 (.t 43), none⟩,
               ⟨(some 45), .load none (.t 44), none⟩,
               ⟨(some 46), .lenL (.t 45), none⟩,
               ⟨(some 47), .bin .eql (.t 46) (.c (.int .i64 0)), none⟩,
               ⟨(some 48), .mv (.t 47), none⟩,
               ⟨(some 49), .mv (.t 0), some (48, true)⟩,
               ⟨(some 50), .mv (.t 5), some (48, true)⟩,
               ⟨(some 51), .iaddr 3 (.t 49) (.t 50), some (48, true)⟩,
               ⟨(some 52), .faddr 1 (.t 51), some (48, true)⟩,
               ⟨(some 53), .load none (.t 52), some (48, true)⟩,
               ⟨(some 54), .lenL (.t 53), some (48, true)⟩,
               ⟨(some 55), .bin .eql (.t 54) (.c (.int .i64 0)), some (48, true)⟩,
               ⟨(some 56), .pick (.t 48) (.t 55) (.c (.bool false)), none⟩])
            (.cond (.t 56) (.seq (.reg [⟨(some 2), .mv (.c (.int .i64 1)), none⟩])
              (.ret)) (.skip))))
          (.reg [⟨(some 39), .mv (.t 5), none⟩,
             ⟨(some 40), .bin .add (.t 39) (.c (.int .i64 1)), none⟩,
             ⟨(some 5), .mv (.t 40), none⟩]))))))
     (.seq (.reg [⟨(some 2), .mv (.c (.int .i64 0)), none⟩])
      (.ret)))))
theorem s70_ok : lookF Try.prog 70 = some (s70, 57, [.tmp 2]) := by kernel_rfl
set_option maxHeartbeats 1000000 in
theorem rJoints_ok (l : List Joint) : Fn P 70 [sl l] (intA (jntErr l)) := by
  (refine fn_look s70_ok (by simp) (by intro k; simp only [go_sem, Nat.reduceEqDiff, ↓reduceIte, reduceCtorEq, Nat.reduceAdd, Nat.reduceMul, Int.reduceToNat, List.reduceReplicate, Nat.reduceLeDiff, Nat.reduceLT, Int.reduceLT, Int.reduceLE, Int.reduceEq]) fun S hS => cwp_sound _ _ _ _ ?_; simp (disch := omega) only [s70, go_sem, Nat.reduceEqDiff, ↓reduceIte, reduceCtorEq, Nat.reduceAdd, Nat.reduceMul, Int.reduceToNat, List.reduceReplicate, Nat.reduceLeDiff, Nat.reduceLT, Int.reduceLT, Int.reduceLE, Int.reduceEq])
  repeat' (first | (with_reducible refine in_seq ?_) | (with_reducible refine in_reg ?_) | (with_reducible refine in_block ?_) | (with_reducible refine in_cond ?_) | (with_reducible refine in_ret ?_) | (with_reducible refine in_skip ?_) | (simp (disch := omega) only [go_sem, Nat.reduceEqDiff, ↓reduceIte, reduceCtorEq, Nat.reduceAdd, Nat.reduceMul, Int.reduceToNat, List.reduceReplicate, Nat.reduceLeDiff, Nat.reduceLT, Int.reduceLT, Int.reduceLE, Int.reduceEq]) | (with_reducible refine giv_intro fun _h => ?_) | (with_reducible refine alt_intro ?_ (fun _h => ?_)) | ((first | with_reducible refine br_dec (fun _h => ?_) (fun _h => ?_) | with_reducible refine br_ndec (fun _h => ?_) (fun _h => ?_)) <;> (first | (exfalso; omega) | simp only [decide_eq_false _h] | simp only [decide_eq_true _h] | skip)) | ((first | with_reducible refine br_not (fun _h => ?_) (fun _h => ?_) | with_reducible refine br_var (fun _h => ?_) (fun _h => ?_)) <;> (try simp only [_h])) | fail)
  · rw [jntErr_3 (by omega)]
  (refine loopC hS [0] (by simp only [go_sem, Nat.reduceEqDiff, ↓reduceIte, reduceCtorEq, Nat.reduceAdd, Nat.reduceMul, Int.reduceToNat, List.reduceReplicate, Nat.reduceLeDiff, Nat.reduceLT, Int.reduceLT, Int.reduceLE, Int.reduceEq]; try rfl) (fun (i : Nat) => [(3, intA i)]) (fun (i : Nat) => []) (fun (i : Nat) => i ≤ l.length ∧ jntW l = jntW (l.drop i)) (fun (i : Nat) => l.length - i) (0) ?h05 ?hn5 ?rd5; case hn5 => (intro s; first | rfl | (rcases s with ⟨_, _⟩; rfl) | (rcases s with ⟨_, _, _⟩; rfl) | (rcases s with ⟨_, _, _, _⟩; rfl) | (rcases s with ⟨_, _, _, _, _⟩; rfl)))
  · simp (disch := omega) only [go_sem, Nat.reduceEqDiff, ↓reduceIte, reduceCtorEq, Nat.reduceAdd, Nat.reduceMul, Int.reduceToNat, List.reduceReplicate, Nat.reduceLeDiff, Nat.reduceLT, Int.reduceLT, Int.reduceLE, Int.reduceEq]; simp
  rintro i ⟨hi, hI⟩
  replace hi : i ≤ l.length := hi
  replace hI : jntW l = jntW (l.drop i) := hI
  by_cases hil : i < l.length
  · rw [nth_drop hil, jntW] at hI
    have c1 := Words_ok [(nth l i).1, (nth l i).2.1, (nth l i).2.2]
    rw [show wordsErr [(nth l i).1, (nth l i).2.1, (nth l i).2.2] = jW (nth l i) from rfl] at c1
    repeat' (first | (with_reducible refine in_seq ?_) | (with_reducible refine in_reg ?_) | (with_reducible refine in_block ?_) | (with_reducible refine in_cond ?_) | (with_reducible refine in_ret ?_) | (with_reducible refine in_skip ?_) | (simp (disch := omega) only [go_sem, Nat.reduceEqDiff, ↓reduceIte, reduceCtorEq, Nat.reduceAdd, Nat.reduceMul, Int.reduceToNat, List.reduceReplicate, Nat.reduceLeDiff, Nat.reduceLT, Int.reduceLT, Int.reduceLE, Int.reduceEq]) | (with_reducible refine giv_intro fun _h => ?_) | (with_reducible refine alt_intro ?_ (fun _h => ?_)) | ((first | with_reducible refine br_dec (fun _h => ?_) (fun _h => ?_) | with_reducible refine br_ndec (fun _h => ?_) (fun _h => ?_)) <;> (first | (exfalso; omega) | simp only [decide_eq_false _h] | simp only [decide_eq_true _h] | skip)) | ((first | with_reducible refine br_not (fun _h => ?_) (fun _h => ?_) | with_reducible refine br_var (fun _h => ?_) (fun _h => ?_)) <;> (try simp only [_h])) | ((with_reducible apply call_D (c1)); (focus (simp (disch := omega) only [go_sem, Nat.reduceEqDiff, ↓reduceIte, reduceCtorEq, Nat.reduceAdd, Nat.reduceMul, Int.reduceToNat, List.reduceReplicate, Nat.reduceLeDiff, Nat.reduceLT, Int.reduceLT, Int.reduceLE, Int.reduceEq]; (try rfl); done))) | fail)
    · rw [jntErr_w (by omega) (by rw [hI, if_pos _h]; exact _h), hI, if_pos _h]
    · refine ⟨i + 1, ⟨by omega, by omega, ?_⟩, by omega⟩
      rw [hI, if_neg (by omega)]
  · rw [drop_end (by omega), jntW] at hI
    repeat' (first | (with_reducible refine in_seq ?_) | (with_reducible refine in_reg ?_) | (with_reducible refine in_block ?_) | (with_reducible refine in_cond ?_) | (with_reducible refine in_ret ?_) | (with_reducible refine in_skip ?_) | (simp (disch := omega) only [go_sem, Nat.reduceEqDiff, ↓reduceIte, reduceCtorEq, Nat.reduceAdd, Nat.reduceMul, Int.reduceToNat, List.reduceReplicate, Nat.reduceLeDiff, Nat.reduceLT, Int.reduceLT, Int.reduceLE, Int.reduceEq]) | (with_reducible refine giv_intro fun _h => ?_) | (with_reducible refine alt_intro ?_ (fun _h => ?_)) | ((first | with_reducible refine br_dec (fun _h => ?_) (fun _h => ?_) | with_reducible refine br_ndec (fun _h => ?_) (fun _h => ?_)) <;> (first | (exfalso; omega) | simp only [decide_eq_false _h] | simp only [decide_eq_true _h] | skip)) | ((first | with_reducible refine br_not (fun _h => ?_) (fun _h => ?_) | with_reducible refine br_var (fun _h => ?_) (fun _h => ?_)) <;> (try simp only [_h])) | fail)
    (refine loopC hS [0] (by simp only [go_sem, Nat.reduceEqDiff, ↓reduceIte, reduceCtorEq, Nat.reduceAdd, Nat.reduceMul, Int.reduceToNat, List.reduceReplicate, Nat.reduceLeDiff, Nat.reduceLT, Int.reduceLT, Int.reduceLE, Int.reduceEq]; try rfl) (fun (k : Nat) => [(5, intA k)]) (fun (k : Nat) => []) (fun (k : Nat) => k ≤ l.length ∧ l.any (fun j => decide (wtJ j = 0)) = (l.drop k).any (fun j => decide (wtJ j = 0))) (fun (k : Nat) => l.length - k) (0) ?h06 ?hn6 ?rd6; case hn6 => (intro s; first | rfl | (rcases s with ⟨_, _⟩; rfl) | (rcases s with ⟨_, _, _⟩; rfl) | (rcases s with ⟨_, _, _, _⟩; rfl) | (rcases s with ⟨_, _, _, _, _⟩; rfl)))
    · simp (disch := omega) only [go_sem, Nat.reduceEqDiff, ↓reduceIte, reduceCtorEq, Nat.reduceAdd, Nat.reduceMul, Int.reduceToNat, List.reduceReplicate, Nat.reduceLeDiff, Nat.reduceLT, Int.reduceLT, Int.reduceLE, Int.reduceEq]; simp
    rintro k ⟨hk, hK⟩
    replace hk : k ≤ l.length := hk
    replace hK : l.any (fun j => decide (wtJ j = 0)) = (l.drop k).any (fun j => decide (wtJ j = 0)) := hK
    by_cases hkl : k < l.length
    · rw [nth_drop hkl, List.any_cons] at hK
      repeat' (first | (with_reducible refine in_seq ?_) | (with_reducible refine in_reg ?_) | (with_reducible refine in_block ?_) | (with_reducible refine in_cond ?_) | (with_reducible refine in_ret ?_) | (with_reducible refine in_skip ?_) | (simp (disch := omega) only [go_sem, Nat.reduceEqDiff, ↓reduceIte, reduceCtorEq, Nat.reduceAdd, Nat.reduceMul, Int.reduceToNat, List.reduceReplicate, Nat.reduceLeDiff, Nat.reduceLT, Int.reduceLT, Int.reduceLE, Int.reduceEq]) | (with_reducible refine giv_intro fun _h => ?_) | (with_reducible refine alt_intro ?_ (fun _h => ?_)) | ((first | with_reducible refine br_dec (fun _h => ?_) (fun _h => ?_) | with_reducible refine br_ndec (fun _h => ?_) (fun _h => ?_)) <;> (first | (exfalso; omega) | simp only [decide_eq_false _h] | simp only [decide_eq_true _h] | skip)) | ((first | with_reducible refine br_not (fun _h => ?_) (fun _h => ?_) | with_reducible refine br_var (fun _h => ?_) (fun _h => ?_)) <;> (try simp only [_h])) | fail)
      all_goals first
        | (rw [jntErr_1 (by omega) hI (by rw [hK, decide_eq_true (by simp only [wtJ]; omega)]; rfl)])
        | (refine ⟨k + 1, ⟨by omega, by omega, ?_⟩, by omega⟩
           rw [hK, decide_eq_false (by simp only [wtJ]; omega), Bool.false_or])
    · rw [drop_end (by omega)] at hK
      repeat' (first | (with_reducible refine in_seq ?_) | (with_reducible refine in_reg ?_) | (with_reducible refine in_block ?_) | (with_reducible refine in_cond ?_) | (with_reducible refine in_ret ?_) | (with_reducible refine in_skip ?_) | (simp (disch := omega) only [go_sem, Nat.reduceEqDiff, ↓reduceIte, reduceCtorEq, Nat.reduceAdd, Nat.reduceMul, Int.reduceToNat, List.reduceReplicate, Nat.reduceLeDiff, Nat.reduceLT, Int.reduceLT, Int.reduceLE, Int.reduceEq]) | (with_reducible refine giv_intro fun _h => ?_) | (with_reducible refine alt_intro ?_ (fun _h => ?_)) | ((first | with_reducible refine br_dec (fun _h => ?_) (fun _h => ?_) | with_reducible refine br_ndec (fun _h => ?_) (fun _h => ?_)) <;> (first | (exfalso; omega) | simp only [decide_eq_false _h] | simp only [decide_eq_true _h] | skip)) | ((first | with_reducible refine br_not (fun _h => ?_) (fun _h => ?_) | with_reducible refine br_var (fun _h => ?_) (fun _h => ?_)) <;> (try simp only [_h])) | fail)
      rw [jntErr_0 (by omega) hI hK]
end Go.Proofs.Ytpfoflhhbkjngaa.Ev

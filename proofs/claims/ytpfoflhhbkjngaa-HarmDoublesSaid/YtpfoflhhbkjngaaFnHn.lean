/- A word that is doubled: Double by both. -/
import Derived.Test.YtpfoflhhbkjngaaFnHm
import Derived.Test.YtpfoflhhbkjngaaFnHe
set_option linter.unusedVariables false
set_option linter.unusedSimpArgs false
namespace Go.Proofs.Ytpfoflhhbkjngaa.Ev
open Go Go.Proofs

/-- What is doubled ahead of a word. -/
def headL (v : Str → Bool) (lo : Str → Int) (w : List Str) (kind : Int) : List Str :=
  if w.length = 0 then [] else if kind = 0 then w else if kind = 1 then nth (sylL v lo w) 0 else if kind = 2 then (if posI v w 0 w.length < 0 then w else w.take (posI v w 0 w.length + 1).toNat) else [nth w 0, ⟨#[101]⟩]
theorem sylL_pos (v : Str → Bool) (lo : Str → Int) {w : List Str} (h : w.length ≠ 0) : 0 < (sylL v lo w).length := by
  rw [sylL, if_neg h]
  cases cutsF v lo w 0 (-1) w.length <;> simp [pieces]
theorem flat_mem_len {α : Type} {ls : List (List α)} {p : List α} (h : p ∈ ls) : p.length ≤ ls.flatten.length := by
  induction ls with
  | nil => simp at h
  | cons x ls ih =>
    rcases List.mem_cons.1 h with rfl | h
    · rw [List.flatten_cons, List.length_append]; omega
    · have := ih h; rw [List.flatten_cons, List.length_append]; omega
theorem syl_flat (v : Str → Bool) (lo : Str → Int) (w : List Str) : (sylL v lo w).flatten = w := by
  unfold sylL
  by_cases h0 : w.length = 0
  · rw [if_pos h0, List.eq_nil_of_length_eq_zero h0]; rfl
  · rw [if_neg h0, pieces_flat w _ 0 (cuts_ok v lo w w.length 0 (-1) 0 (by omega) (by omega) (by omega) (by omega) (by omega))]; rfl
theorem headL_len (v : Str → Bool) (lo : Str → Int) (w : List Str) (kind : Int) : (headL v lo w kind).length ≤ w.length + 2 := by
  unfold headL
  split
  · simp
  · rename_i h
    split
    · omega
    · split
      · have := flat_mem_len (nth_mem (sylL_pos v lo h)); rw [syl_flat] at this; omega
      · split
        · split
          · omega
          · simp; omega
        · simp
/-- (ablaut/harm.sounds).head: 3 parameters, 0 captured -/
def s85 : SC := .seq (.reg [⟨(some 6), .mv (.c (.slice none 0 0)), none⟩])
  (.seq (.seq (.reg [⟨(some 8), .mv (.t 1), none⟩,
       ⟨(some 9), .lenL (.t 8), none⟩,
       ⟨(some 10), .bin .eql (.t 9) (.c (.int .i64 0)), none⟩])
    (.cond (.t 10) (.seq (.reg [⟨(some 6), .mv (.c (.slice none 0 0)), none⟩])
      (.ret)) (.skip)))
   (.seq (.seq (.reg [⟨(some 11), .mv (.t 2), none⟩])
     (.block 0 (.seq (.reg [⟨(some 13), .bin .eql (.t 11) (.c (.int .i64 0)), none⟩,
          ⟨(some 12), .mv (.t 13), none⟩])
       (.cond (.t 12) (.seq (.reg [⟨(some 14), .mv (.t 1), none⟩,
            ⟨(some 6), .mv (.t 14), none⟩])
         (.ret)) (.seq (.reg [⟨(some 16), .bin .eql (.t 11) (.c (.int .i64 1)), none⟩,
            ⟨(some 15), .mv (.t 16), none⟩])
         (.cond (.t 15) (.seq (.reg [⟨(some 17), .mv (.t 0), none⟩,
              ⟨(some 18), .mv (.t 1), none⟩,
              ⟨(some 19), .call (.f 64) [(.t 17), (.t 18)], none⟩,
              ⟨(some 20), .iaddr 1 (.t 19) (.c (.int .i64 0)), none⟩,
              ⟨(some 21), .load none (.t 20), none⟩,
              ⟨(some 6), .mv (.t 21), none⟩])
           (.ret)) (.seq (.reg [⟨(some 23), .bin .eql (.t 11) (.c (.int .i64 2)), none⟩,
              ⟨(some 22), .mv (.t 23), none⟩])
           (.cond (.t 22) (.seq (.seq (.reg [⟨(some 24), .mv (.t 1), none⟩,
                 ⟨(some 25), .mv (.t 0), none⟩,
                 ⟨(some 26), .mkbnd 73 [(.t 25)], none⟩,
                 ⟨(some 27), .call (.f 74) [(.t 24), (.t 26)], none⟩,
                 ⟨(some 7), .mv (.t 27), none⟩])
              (.seq (.reg [⟨(some 28), .mv (.t 7), none⟩,
                  ⟨(some 29), .bin .geq (.t 28) (.c (.int .i64 0)), none⟩])
               (.cond (.t 29) (.seq (.reg [⟨(some 30), .mv (.t 1), none⟩,
                    ⟨(some 31), .mv (.t 7), none⟩,
                    ⟨(some 32), .bin .add (.t 31) (.c (.int .i64 1)), none⟩,
                    ⟨(some 33), .sl 1 (.t 30) none (some (.t 32)), none⟩,
                    ⟨(some 6), .mv (.t 33), none⟩])
                 (.ret)) (.skip))))
             (.seq (.reg [⟨(some 34), .mv (.t 1), none⟩,
                 ⟨(some 6), .mv (.t 34), none⟩])
              (.ret))) (.skip)))))))))
    (.seq (.reg [⟨(some 35), .mv (.t 1), none⟩,
        ⟨(some 36), .iaddr 1 (.t 35) (.c (.int .i64 0)), none⟩,
        ⟨(some 37), .load none (.t 36), none⟩,
        ⟨(some 38), .buildSl 9 1 2 [(.string ⟨#[]⟩)] [(0, 1, (.t 37)), (1, 1, (.c (.string ⟨#[101]⟩)))], none⟩,
        ⟨(some 6), .mv (.t 38), none⟩])
     (.ret))))
theorem s85_ok : lookF Try.prog 85 = some (s85, 39, [.tmp 6]) := by kernel_rfl
set_option maxHeartbeats 2000000 in
theorem head_ok (m : List (Str × Sound)) (w : List Str) (kind : Int) (hk : 0 ≤ kind ∧ kind ≤ 3) (hw : w.length ≤ 1000000) : Fn P 85 [romA m, sl w, intA kind] (sl (headL (vowM m) (louM m) w kind)) := by
  by_cases h0 : w.length = 0
  · rw [headL, if_pos h0]
    (refine fn_look s85_ok (by simp) (by intro k; simp only [go_sem, Nat.reduceEqDiff, ↓reduceIte, reduceCtorEq, Nat.reduceAdd, Nat.reduceMul, Int.reduceToNat, List.reduceReplicate, Nat.reduceLeDiff, Nat.reduceLT, Int.reduceLT, Int.reduceLE, Int.reduceEq]) fun S hS => cwp_sound _ _ _ _ ?_; simp (disch := omega) only [s85, go_sem, Nat.reduceEqDiff, ↓reduceIte, reduceCtorEq, Nat.reduceAdd, Nat.reduceMul, Int.reduceToNat, List.reduceReplicate, Nat.reduceLeDiff, Nat.reduceLT, Int.reduceLT, Int.reduceLE, Int.reduceEq])
    repeat' (first | (with_reducible refine in_seq ?_) | (with_reducible refine in_reg ?_) | (with_reducible refine in_block ?_) | (with_reducible refine in_cond ?_) | (with_reducible refine in_ret ?_) | (with_reducible refine in_skip ?_) | (simp (disch := omega) only [go_sem, Nat.reduceEqDiff, ↓reduceIte, reduceCtorEq, Nat.reduceAdd, Nat.reduceMul, Int.reduceToNat, List.reduceReplicate, Nat.reduceLeDiff, Nat.reduceLT, Int.reduceLT, Int.reduceLE, Int.reduceEq]) | (with_reducible refine giv_intro fun _h => ?_) | (with_reducible refine alt_intro ?_ (fun _h => ?_)) | ((first | with_reducible refine br_dec (fun _h => ?_) (fun _h => ?_) | with_reducible refine br_ndec (fun _h => ?_) (fun _h => ?_)) <;> (first | (exfalso; omega) | simp only [decide_eq_false _h] | simp only [decide_eq_true _h] | skip)) | ((first | with_reducible refine br_not (fun _h => ?_) (fun _h => ?_) | with_reducible refine br_var (fun _h => ?_) (fun _h => ?_)) <;> (try simp only [_h])) | fail)
    rfl
  · have hh : headL (vowM m) (louM m) w kind = if kind = 0 then w else if kind = 1 then nth (sylL (vowM m) (louM m) w) 0 else if kind = 2 then (if posI (vowM m) w 0 w.length < 0 then w else w.take (posI (vowM m) w 0 w.length + 1).toNat) else [nth w 0, ⟨#[101]⟩] := by rw [headL, if_neg h0]
    have hw0 : 0 < w.length := by omega
    have c1 := split_ok m w hw
    have hs := sylL_pos (vowM m) (louM m) h0
    have c2 := idxV_ok m w
    rw [idxP_first (vowM m) w (k := 0) (by omega)] at c2
    have hr := posI_range (vowM m) w 0 w.length
    have e0 : (cellsL w).head? = some (strA (nth w 0)) := by have := head_cells hw0; rw [List.drop_zero] at this; rw [this]; rfl
    have e1 : (cellsL (sylL (vowM m) (louM m) w)).head? = some (sl (nth (sylL (vowM m) (louM m) w) 0)) := by have := head_cells hs; rw [List.drop_zero] at this; rw [this]; rfl
    have e7 : ∀ n, List.take (n - 0) w = List.take n w := fun n => rfl
    generalize sylL (vowM m) (louM m) w = sy at *
    generalize posI (vowM m) w 0 w.length = p at *
    have hkk : kind = 0 ∨ kind = 1 ∨ kind = 2 ∨ kind = 3 := by omega
    rcases hkk with rfl | rfl | rfl | rfl
    · rw [hh, if_pos rfl]
      (refine fn_look s85_ok (by simp) (by intro k; simp only [go_sem, Nat.reduceEqDiff, ↓reduceIte, reduceCtorEq, Nat.reduceAdd, Nat.reduceMul, Int.reduceToNat, List.reduceReplicate, Nat.reduceLeDiff, Nat.reduceLT, Int.reduceLT, Int.reduceLE, Int.reduceEq]) fun S hS => cwp_sound _ _ _ _ ?_; simp (disch := omega) only [s85, go_sem, Nat.reduceEqDiff, ↓reduceIte, reduceCtorEq, Nat.reduceAdd, Nat.reduceMul, Int.reduceToNat, List.reduceReplicate, Nat.reduceLeDiff, Nat.reduceLT, Int.reduceLT, Int.reduceLE, Int.reduceEq])
      repeat' (first | (with_reducible refine in_seq ?_) | (with_reducible refine in_reg ?_) | (with_reducible refine in_block ?_) | (with_reducible refine in_cond ?_) | (with_reducible refine in_ret ?_) | (with_reducible refine in_skip ?_) | (simp (disch := omega) only [go_sem, Nat.reduceEqDiff, ↓reduceIte, reduceCtorEq, Nat.reduceAdd, Nat.reduceMul, Int.reduceToNat, List.reduceReplicate, Nat.reduceLeDiff, Nat.reduceLT, Int.reduceLT, Int.reduceLE, Int.reduceEq]) | (with_reducible refine giv_intro fun _h => ?_) | (with_reducible refine alt_intro ?_ (fun _h => ?_)) | ((first | with_reducible refine br_dec (fun _h => ?_) (fun _h => ?_) | with_reducible refine br_ndec (fun _h => ?_) (fun _h => ?_)) <;> (first | (exfalso; omega) | simp only [decide_eq_false _h] | simp only [decide_eq_true _h] | skip)) | ((first | with_reducible refine br_not (fun _h => ?_) (fun _h => ?_) | with_reducible refine br_var (fun _h => ?_) (fun _h => ?_)) <;> (try simp only [_h])) | fail)
    · rw [hh, if_neg (by omega), if_pos rfl]
      (refine fn_look s85_ok (by simp) (by intro k; simp only [go_sem, Nat.reduceEqDiff, ↓reduceIte, reduceCtorEq, Nat.reduceAdd, Nat.reduceMul, Int.reduceToNat, List.reduceReplicate, Nat.reduceLeDiff, Nat.reduceLT, Int.reduceLT, Int.reduceLE, Int.reduceEq]) fun S hS => cwp_sound _ _ _ _ ?_; simp (disch := omega) only [s85, go_sem, Nat.reduceEqDiff, ↓reduceIte, reduceCtorEq, Nat.reduceAdd, Nat.reduceMul, Int.reduceToNat, List.reduceReplicate, Nat.reduceLeDiff, Nat.reduceLT, Int.reduceLT, Int.reduceLE, Int.reduceEq])
      repeat' (first | (with_reducible refine in_seq ?_) | (with_reducible refine in_reg ?_) | (with_reducible refine in_block ?_) | (with_reducible refine in_cond ?_) | (with_reducible refine in_ret ?_) | (with_reducible refine in_skip ?_) | (simp (disch := omega) only [go_sem, Nat.reduceEqDiff, ↓reduceIte, reduceCtorEq, Nat.reduceAdd, Nat.reduceMul, Int.reduceToNat, List.reduceReplicate, Nat.reduceLeDiff, Nat.reduceLT, Int.reduceLT, Int.reduceLE, Int.reduceEq, e1]) | (with_reducible refine giv_intro fun _h => ?_) | (with_reducible refine alt_intro ?_ (fun _h => ?_)) | ((first | with_reducible refine br_dec (fun _h => ?_) (fun _h => ?_) | with_reducible refine br_ndec (fun _h => ?_) (fun _h => ?_)) <;> (first | (exfalso; omega) | simp only [decide_eq_false _h] | simp only [decide_eq_true _h] | skip)) | ((first | with_reducible refine br_not (fun _h => ?_) (fun _h => ?_) | with_reducible refine br_var (fun _h => ?_) (fun _h => ?_)) <;> (try simp only [_h])) | ((with_reducible apply call (c1)); (focus (simp (disch := omega) only [go_sem, Nat.reduceEqDiff, ↓reduceIte, reduceCtorEq, Nat.reduceAdd, Nat.reduceMul, Int.reduceToNat, List.reduceReplicate, Nat.reduceLeDiff, Nat.reduceLT, Int.reduceLT, Int.reduceLE, Int.reduceEq, e1]; (try rfl); done))) | fail)
    · rw [hh, if_neg (by omega), if_neg (by omega), if_pos rfl]
      by_cases hp : p < 0
      · rw [if_pos hp]
        (refine fn_look s85_ok (by simp) (by intro k; simp only [go_sem, Nat.reduceEqDiff, ↓reduceIte, reduceCtorEq, Nat.reduceAdd, Nat.reduceMul, Int.reduceToNat, List.reduceReplicate, Nat.reduceLeDiff, Nat.reduceLT, Int.reduceLT, Int.reduceLE, Int.reduceEq]) fun S hS => cwp_sound _ _ _ _ ?_; simp (disch := omega) only [s85, go_sem, Nat.reduceEqDiff, ↓reduceIte, reduceCtorEq, Nat.reduceAdd, Nat.reduceMul, Int.reduceToNat, List.reduceReplicate, Nat.reduceLeDiff, Nat.reduceLT, Int.reduceLT, Int.reduceLE, Int.reduceEq])
        repeat' (first | (with_reducible refine in_seq ?_) | (with_reducible refine in_reg ?_) | (with_reducible refine in_block ?_) | (with_reducible refine in_cond ?_) | (with_reducible refine in_ret ?_) | (with_reducible refine in_skip ?_) | (simp (disch := omega) only [go_sem, Nat.reduceEqDiff, ↓reduceIte, reduceCtorEq, Nat.reduceAdd, Nat.reduceMul, Int.reduceToNat, List.reduceReplicate, Nat.reduceLeDiff, Nat.reduceLT, Int.reduceLT, Int.reduceLE, Int.reduceEq]) | (with_reducible refine giv_intro fun _h => ?_) | (with_reducible refine alt_intro ?_ (fun _h => ?_)) | ((first | with_reducible refine br_dec (fun _h => ?_) (fun _h => ?_) | with_reducible refine br_ndec (fun _h => ?_) (fun _h => ?_)) <;> (first | (exfalso; omega) | simp only [decide_eq_false _h] | simp only [decide_eq_true _h] | skip)) | ((first | with_reducible refine br_not (fun _h => ?_) (fun _h => ?_) | with_reducible refine br_var (fun _h => ?_) (fun _h => ?_)) <;> (try simp only [_h])) | ((with_reducible apply call (c2)); (focus (simp (disch := omega) only [go_sem, Nat.reduceEqDiff, ↓reduceIte, reduceCtorEq, Nat.reduceAdd, Nat.reduceMul, Int.reduceToNat, List.reduceReplicate, Nat.reduceLeDiff, Nat.reduceLT, Int.reduceLT, Int.reduceLE, Int.reduceEq]; (try rfl); done))) | fail)
      · rw [if_neg hp]
        (refine fn_look s85_ok (by simp) (by intro k; simp only [go_sem, Nat.reduceEqDiff, ↓reduceIte, reduceCtorEq, Nat.reduceAdd, Nat.reduceMul, Int.reduceToNat, List.reduceReplicate, Nat.reduceLeDiff, Nat.reduceLT, Int.reduceLT, Int.reduceLE, Int.reduceEq]) fun S hS => cwp_sound _ _ _ _ ?_; simp (disch := omega) only [s85, go_sem, Nat.reduceEqDiff, ↓reduceIte, reduceCtorEq, Nat.reduceAdd, Nat.reduceMul, Int.reduceToNat, List.reduceReplicate, Nat.reduceLeDiff, Nat.reduceLT, Int.reduceLT, Int.reduceLE, Int.reduceEq])
        repeat' (first | (with_reducible refine in_seq ?_) | (with_reducible refine in_reg ?_) | (with_reducible refine in_block ?_) | (with_reducible refine in_cond ?_) | (with_reducible refine in_ret ?_) | (with_reducible refine in_skip ?_) | (simp (disch := omega) only [go_sem, Nat.reduceEqDiff, ↓reduceIte, reduceCtorEq, Nat.reduceAdd, Nat.reduceMul, Int.reduceToNat, List.reduceReplicate, Nat.reduceLeDiff, Nat.reduceLT, Int.reduceLT, Int.reduceLE, Int.reduceEq, e7]) | (with_reducible refine giv_intro fun _h => ?_) | (with_reducible refine alt_intro ?_ (fun _h => ?_)) | ((first | with_reducible refine br_dec (fun _h => ?_) (fun _h => ?_) | with_reducible refine br_ndec (fun _h => ?_) (fun _h => ?_)) <;> (first | (exfalso; omega) | simp only [decide_eq_false _h] | simp only [decide_eq_true _h] | skip)) | ((first | with_reducible refine br_not (fun _h => ?_) (fun _h => ?_) | with_reducible refine br_var (fun _h => ?_) (fun _h => ?_)) <;> (try simp only [_h])) | ((with_reducible apply call (c2)); (focus (simp (disch := omega) only [go_sem, Nat.reduceEqDiff, ↓reduceIte, reduceCtorEq, Nat.reduceAdd, Nat.reduceMul, Int.reduceToNat, List.reduceReplicate, Nat.reduceLeDiff, Nat.reduceLT, Int.reduceLT, Int.reduceLE, Int.reduceEq, e7]; (try rfl); done))) | fail)
    · rw [hh, if_neg (by omega), if_neg (by omega), if_neg (by omega)]
      (refine fn_look s85_ok (by simp) (by intro k; simp only [go_sem, Nat.reduceEqDiff, ↓reduceIte, reduceCtorEq, Nat.reduceAdd, Nat.reduceMul, Int.reduceToNat, List.reduceReplicate, Nat.reduceLeDiff, Nat.reduceLT, Int.reduceLT, Int.reduceLE, Int.reduceEq]) fun S hS => cwp_sound _ _ _ _ ?_; simp (disch := omega) only [s85, go_sem, Nat.reduceEqDiff, ↓reduceIte, reduceCtorEq, Nat.reduceAdd, Nat.reduceMul, Int.reduceToNat, List.reduceReplicate, Nat.reduceLeDiff, Nat.reduceLT, Int.reduceLT, Int.reduceLE, Int.reduceEq])
      repeat' (first | (with_reducible refine in_seq ?_) | (with_reducible refine in_reg ?_) | (with_reducible refine in_block ?_) | (with_reducible refine in_cond ?_) | (with_reducible refine in_ret ?_) | (with_reducible refine in_skip ?_) | (simp (disch := omega) only [go_sem, Nat.reduceEqDiff, ↓reduceIte, reduceCtorEq, Nat.reduceAdd, Nat.reduceMul, Int.reduceToNat, List.reduceReplicate, Nat.reduceLeDiff, Nat.reduceLT, Int.reduceLT, Int.reduceLE, Int.reduceEq, e0]) | (with_reducible refine giv_intro fun _h => ?_) | (with_reducible refine alt_intro ?_ (fun _h => ?_)) | ((first | with_reducible refine br_dec (fun _h => ?_) (fun _h => ?_) | with_reducible refine br_ndec (fun _h => ?_) (fun _h => ?_)) <;> (first | (exfalso; omega) | simp only [decide_eq_false _h] | simp only [decide_eq_true _h] | skip)) | ((first | with_reducible refine br_not (fun _h => ?_) (fun _h => ?_) | with_reducible refine br_var (fun _h => ?_) (fun _h => ?_)) <;> (try simp only [_h])) | fail)
      rfl
/-- ablaut/ablautref13.ahead: 3 parameters, 0 captured -/
def s86 : SC := .seq (.reg [⟨(some 3), .box 37 1 (.t 0), none⟩,
     ⟨(some 6), .mv (.c (.slice none 0 0)), none⟩])
  (.seq (.seq (.reg [⟨(some 8), .mv (.t 1), none⟩,
       ⟨(some 9), .lenL (.t 8), none⟩,
       ⟨(some 10), .bin .eql (.t 9) (.c (.int .i64 0)), none⟩])
    (.cond (.t 10) (.seq (.reg [⟨(some 6), .mv (.c (.slice none 0 0)), none⟩])
      (.ret)) (.skip)))
   (.seq (.seq (.reg [⟨(some 11), .mv (.t 2), none⟩])
     (.block 0 (.seq (.reg [⟨(some 13), .bin .eql (.t 11) (.c (.int .i64 0)), none⟩,
          ⟨(some 12), .mv (.t 13), none⟩])
       (.cond (.t 12) (.seq (.reg [⟨(some 14), .mv (.t 1), none⟩,
            ⟨(some 6), .mv (.t 14), none⟩])
         (.ret)) (.seq (.reg [⟨(some 16), .bin .eql (.t 11) (.c (.int .i64 1)), none⟩,
            ⟨(some 15), .mv (.t 16), none⟩])
         (.cond (.t 15) (.seq (.reg [⟨(some 17), .load (some 1) (.t 3), none⟩,
              ⟨(some 18), .mv (.t 1), none⟩,
              ⟨(some 19), .call (.f 66) [(.t 17), (.t 18)], none⟩,
              ⟨(some 20), .iaddr 1 (.t 19) (.c (.int .i64 0)), none⟩,
              ⟨(some 21), .load none (.t 20), none⟩,
              ⟨(some 6), .mv (.t 21), none⟩])
           (.ret)) (.seq (.reg [⟨(some 23), .bin .eql (.t 11) (.c (.int .i64 3)), none⟩,
              ⟨(some 22), .mv (.t 23), none⟩])
           (.cond (.t 22) (.seq (.reg [⟨(some 24), .mv (.t 1), none⟩,
                ⟨(some 25), .iaddr 1 (.t 24) (.c (.int .i64 0)), none⟩,
                ⟨(some 26), .load none (.t 25), none⟩,
                ⟨(some 27), .buildSl 9 1 2 [(.string ⟨#[]⟩)] [(0, 1, (.t 26)), (1, 1, (.c (.string ⟨#[101]⟩)))], none⟩,
                ⟨(some 6), .mv (.t 27), none⟩])
             (.ret)) (.skip)))))))))
    (.seq (.seq (.reg [⟨(some 7), .mv (.c (.int .i64 0)), none⟩])
      (.block 1 (.loop (.seq (.seq (.reg [⟨(some 28), .mv (.t 7), none⟩,
             ⟨(some 29), .mv (.t 1), none⟩,
             ⟨(some 30), .lenL (.t 29), none⟩,
             ⟨(some 31), .bin .lss (.t 28) (.t 30), none⟩])
          (.cond (.t 31) (.skip) (.exit 1)))
         (.seq (.block 2 (.seq (.regD [⟨(some 34), .load (some 1) (.t 3), none⟩,
               ⟨(some 35), .mv (.t 1), none⟩,
               ⟨(some 36), .mv (.t 7), none⟩,
               ⟨(some 37), .iaddr 1 (.t 35) (.t 36), none⟩,
               ⟨(some 38), .load none (.t 37), none⟩,
               ⟨(some 39), .call (.f 76) [(.t 34), (.t 38)], none⟩])
            (.cond (.t 39) (.seq (.reg [⟨(some 40), .mv (.t 1), none⟩,
                 ⟨(some 41), .mv (.t 7), none⟩,
                 ⟨(some 42), .bin .add (.t 41) (.c (.int .i64 1)), none⟩,
                 ⟨(some 43), .sl 1 (.t 40) none (some (.t 42)), none⟩,
                 ⟨(some 6), .mv (.t 43), none⟩])
              (.ret)) (.skip))))
          (.reg [⟨(some 32), .mv (.t 7), none⟩,
             ⟨(some 33), .bin .add (.t 32) (.c (.int .i64 1)), none⟩,
             ⟨(some 7), .mv (.t 33), none⟩]))))))
     (.seq (.reg [⟨(some 44), .mv (.t 1), none⟩,
         ⟨(some 6), .mv (.t 44), none⟩])
      (.ret)))))
theorem s86_ok : lookF Try.prog 86 = some (s86, 45, [.tmp 6]) := by kernel_rfl
set_option maxHeartbeats 2000000 in
theorem ahead_ok (s : List Sound) (w : List Str) (kind : Int) (hk : 0 ≤ kind ∧ kind ≤ 3) (hw : w.length ≤ 1000000) : Fn P 86 [sndA s, sl w, intA kind] (sl (headL (vowR s) (louR s) w kind)) := by
  by_cases h0 : w.length = 0
  · rw [headL, if_pos h0]
    (refine fn_look s86_ok (by simp) (by intro k; simp only [go_sem, Nat.reduceEqDiff, ↓reduceIte, reduceCtorEq, Nat.reduceAdd, Nat.reduceMul, Int.reduceToNat, List.reduceReplicate, Nat.reduceLeDiff, Nat.reduceLT, Int.reduceLT, Int.reduceLE, Int.reduceEq]) fun S hS => cwp_sound _ _ _ _ ?_; simp (disch := omega) only [s86, go_sem, Nat.reduceEqDiff, ↓reduceIte, reduceCtorEq, Nat.reduceAdd, Nat.reduceMul, Int.reduceToNat, List.reduceReplicate, Nat.reduceLeDiff, Nat.reduceLT, Int.reduceLT, Int.reduceLE, Int.reduceEq])
    repeat' (first | (with_reducible refine in_seq ?_) | (with_reducible refine in_reg ?_) | (with_reducible refine in_block ?_) | (with_reducible refine in_cond ?_) | (with_reducible refine in_ret ?_) | (with_reducible refine in_skip ?_) | (simp (disch := omega) only [go_sem, Nat.reduceEqDiff, ↓reduceIte, reduceCtorEq, Nat.reduceAdd, Nat.reduceMul, Int.reduceToNat, List.reduceReplicate, Nat.reduceLeDiff, Nat.reduceLT, Int.reduceLT, Int.reduceLE, Int.reduceEq]) | (with_reducible refine giv_intro fun _h => ?_) | (with_reducible refine alt_intro ?_ (fun _h => ?_)) | ((first | with_reducible refine br_dec (fun _h => ?_) (fun _h => ?_) | with_reducible refine br_ndec (fun _h => ?_) (fun _h => ?_)) <;> (first | (exfalso; omega) | simp only [decide_eq_false _h] | simp only [decide_eq_true _h] | skip)) | ((first | with_reducible refine br_not (fun _h => ?_) (fun _h => ?_) | with_reducible refine br_var (fun _h => ?_) (fun _h => ?_)) <;> (try simp only [_h])) | fail)
    rfl
  · have hh : headL (vowR s) (louR s) w kind = if kind = 0 then w else if kind = 1 then nth (sylL (vowR s) (louR s) w) 0 else if kind = 2 then (if posI (vowR s) w 0 w.length < 0 then w else w.take (posI (vowR s) w 0 w.length + 1).toNat) else [nth w 0, ⟨#[101]⟩] := by rw [headL, if_neg h0]
    have hw0 : 0 < w.length := by omega
    have c1 := rSyllables_ok s w hw
    have hs := sylL_pos (vowR s) (louR s) h0
    have e0 : (cellsL w).head? = some (strA (nth w 0)) := by have := head_cells hw0; rw [List.drop_zero] at this; rw [this]; rfl
    have e1 : (cellsL (sylL (vowR s) (louR s) w)).head? = some (sl (nth (sylL (vowR s) (louR s) w) 0)) := by have := head_cells hs; rw [List.drop_zero] at this; rw [this]; rfl
    have e7 : ∀ n, List.take (n - 0) w = List.take n w := fun n => rfl
    generalize sylL (vowR s) (louR s) w = sy at *
    have hkk : kind = 0 ∨ kind = 1 ∨ kind = 2 ∨ kind = 3 := by omega
    rcases hkk with rfl | rfl | rfl | rfl
    · rw [hh, if_pos rfl]
      (refine fn_look s86_ok (by simp) (by intro k; simp only [go_sem, Nat.reduceEqDiff, ↓reduceIte, reduceCtorEq, Nat.reduceAdd, Nat.reduceMul, Int.reduceToNat, List.reduceReplicate, Nat.reduceLeDiff, Nat.reduceLT, Int.reduceLT, Int.reduceLE, Int.reduceEq]) fun S hS => cwp_sound _ _ _ _ ?_; simp (disch := omega) only [s86, go_sem, Nat.reduceEqDiff, ↓reduceIte, reduceCtorEq, Nat.reduceAdd, Nat.reduceMul, Int.reduceToNat, List.reduceReplicate, Nat.reduceLeDiff, Nat.reduceLT, Int.reduceLT, Int.reduceLE, Int.reduceEq])
      repeat' (first | (with_reducible refine in_seq ?_) | (with_reducible refine in_reg ?_) | (with_reducible refine in_block ?_) | (with_reducible refine in_cond ?_) | (with_reducible refine in_ret ?_) | (with_reducible refine in_skip ?_) | (simp (disch := omega) only [go_sem, Nat.reduceEqDiff, ↓reduceIte, reduceCtorEq, Nat.reduceAdd, Nat.reduceMul, Int.reduceToNat, List.reduceReplicate, Nat.reduceLeDiff, Nat.reduceLT, Int.reduceLT, Int.reduceLE, Int.reduceEq]) | (with_reducible refine giv_intro fun _h => ?_) | (with_reducible refine alt_intro ?_ (fun _h => ?_)) | ((first | with_reducible refine br_dec (fun _h => ?_) (fun _h => ?_) | with_reducible refine br_ndec (fun _h => ?_) (fun _h => ?_)) <;> (first | (exfalso; omega) | simp only [decide_eq_false _h] | simp only [decide_eq_true _h] | skip)) | ((first | with_reducible refine br_not (fun _h => ?_) (fun _h => ?_) | with_reducible refine br_var (fun _h => ?_) (fun _h => ?_)) <;> (try simp only [_h])) | fail)
    · rw [hh, if_neg (by omega), if_pos rfl]
      (refine fn_look s86_ok (by simp) (by intro k; simp only [go_sem, Nat.reduceEqDiff, ↓reduceIte, reduceCtorEq, Nat.reduceAdd, Nat.reduceMul, Int.reduceToNat, List.reduceReplicate, Nat.reduceLeDiff, Nat.reduceLT, Int.reduceLT, Int.reduceLE, Int.reduceEq]) fun S hS => cwp_sound _ _ _ _ ?_; simp (disch := omega) only [s86, go_sem, Nat.reduceEqDiff, ↓reduceIte, reduceCtorEq, Nat.reduceAdd, Nat.reduceMul, Int.reduceToNat, List.reduceReplicate, Nat.reduceLeDiff, Nat.reduceLT, Int.reduceLT, Int.reduceLE, Int.reduceEq])
      repeat' (first | (with_reducible refine in_seq ?_) | (with_reducible refine in_reg ?_) | (with_reducible refine in_block ?_) | (with_reducible refine in_cond ?_) | (with_reducible refine in_ret ?_) | (with_reducible refine in_skip ?_) | (simp (disch := omega) only [go_sem, Nat.reduceEqDiff, ↓reduceIte, reduceCtorEq, Nat.reduceAdd, Nat.reduceMul, Int.reduceToNat, List.reduceReplicate, Nat.reduceLeDiff, Nat.reduceLT, Int.reduceLT, Int.reduceLE, Int.reduceEq, e1]) | (with_reducible refine giv_intro fun _h => ?_) | (with_reducible refine alt_intro ?_ (fun _h => ?_)) | ((first | with_reducible refine br_dec (fun _h => ?_) (fun _h => ?_) | with_reducible refine br_ndec (fun _h => ?_) (fun _h => ?_)) <;> (first | (exfalso; omega) | simp only [decide_eq_false _h] | simp only [decide_eq_true _h] | skip)) | ((first | with_reducible refine br_not (fun _h => ?_) (fun _h => ?_) | with_reducible refine br_var (fun _h => ?_) (fun _h => ?_)) <;> (try simp only [_h])) | ((with_reducible apply call (c1)); (focus (simp (disch := omega) only [go_sem, Nat.reduceEqDiff, ↓reduceIte, reduceCtorEq, Nat.reduceAdd, Nat.reduceMul, Int.reduceToNat, List.reduceReplicate, Nat.reduceLeDiff, Nat.reduceLT, Int.reduceLT, Int.reduceLE, Int.reduceEq, e1]; (try rfl); done))) | fail)
    · rw [hh, if_neg (by omega), if_neg (by omega), if_pos rfl]
      (refine fn_look s86_ok (by simp) (by intro k; simp only [go_sem, Nat.reduceEqDiff, ↓reduceIte, reduceCtorEq, Nat.reduceAdd, Nat.reduceMul, Int.reduceToNat, List.reduceReplicate, Nat.reduceLeDiff, Nat.reduceLT, Int.reduceLT, Int.reduceLE, Int.reduceEq]) fun S hS => cwp_sound _ _ _ _ ?_; simp (disch := omega) only [s86, go_sem, Nat.reduceEqDiff, ↓reduceIte, reduceCtorEq, Nat.reduceAdd, Nat.reduceMul, Int.reduceToNat, List.reduceReplicate, Nat.reduceLeDiff, Nat.reduceLT, Int.reduceLT, Int.reduceLE, Int.reduceEq])
      repeat' (first | (with_reducible refine in_seq ?_) | (with_reducible refine in_reg ?_) | (with_reducible refine in_block ?_) | (with_reducible refine in_cond ?_) | (with_reducible refine in_ret ?_) | (with_reducible refine in_skip ?_) | (simp (disch := omega) only [go_sem, Nat.reduceEqDiff, ↓reduceIte, reduceCtorEq, Nat.reduceAdd, Nat.reduceMul, Int.reduceToNat, List.reduceReplicate, Nat.reduceLeDiff, Nat.reduceLT, Int.reduceLT, Int.reduceLE, Int.reduceEq]) | (with_reducible refine giv_intro fun _h => ?_) | (with_reducible refine alt_intro ?_ (fun _h => ?_)) | ((first | with_reducible refine br_dec (fun _h => ?_) (fun _h => ?_) | with_reducible refine br_ndec (fun _h => ?_) (fun _h => ?_)) <;> (first | (exfalso; omega) | simp only [decide_eq_false _h] | simp only [decide_eq_true _h] | skip)) | ((first | with_reducible refine br_not (fun _h => ?_) (fun _h => ?_) | with_reducible refine br_var (fun _h => ?_) (fun _h => ?_)) <;> (try simp only [_h])) | fail)
      (refine loopC hS [1, 3] (by simp only [go_sem, Nat.reduceEqDiff, ↓reduceIte, reduceCtorEq, Nat.reduceAdd, Nat.reduceMul, Int.reduceToNat, List.reduceReplicate, Nat.reduceLeDiff, Nat.reduceLT, Int.reduceLT, Int.reduceLE, Int.reduceEq]; try rfl) (fun (i : Nat) => [(7, intA i)]) (fun (i : Nat) => [some (.row 37 1 [sl s])]) (fun (i : Nat) => i ≤ w.length ∧ posI (vowR s) w 0 i < 0) (fun (i : Nat) => w.length - i) (0) ?h01 ?hn1 ?rd1; case hn1 => (intro s; first | rfl | (rcases s with ⟨_, _⟩; rfl) | (rcases s with ⟨_, _, _⟩; rfl) | (rcases s with ⟨_, _, _, _⟩; rfl) | (rcases s with ⟨_, _, _, _, _⟩; rfl)))
      · simp (disch := omega) only [go_sem, Nat.reduceEqDiff, ↓reduceIte, reduceCtorEq, Nat.reduceAdd, Nat.reduceMul, Int.reduceToNat, List.reduceReplicate, Nat.reduceLeDiff, Nat.reduceLT, Int.reduceLT, Int.reduceLE, Int.reduceEq]; simp [posI]
      rintro i ⟨hi, hp⟩
      replace hi : i ≤ w.length := hi
      replace hp : posI (vowR s) w 0 i < 0 := hp
      by_cases hil : i < w.length
      · have d1 := isVowel_ok s (nth w i)
        have hst : posI (vowR s) w 0 (i + 1) = if vowR s (nth w i) = true ∧ (posI (vowR s) w 0 i < 0 ∨ (2 : Int) ≤ 0) then (i : Int) else posI (vowR s) w 0 i := rfl
        repeat' (first | (with_reducible refine in_seq ?_) | (with_reducible refine in_reg ?_) | (with_reducible refine in_block ?_) | (with_reducible refine in_cond ?_) | (with_reducible refine in_ret ?_) | (with_reducible refine in_skip ?_) | (simp (disch := omega) only [go_sem, Nat.reduceEqDiff, ↓reduceIte, reduceCtorEq, Nat.reduceAdd, Nat.reduceMul, Int.reduceToNat, List.reduceReplicate, Nat.reduceLeDiff, Nat.reduceLT, Int.reduceLT, Int.reduceLE, Int.reduceEq, e7]) | (with_reducible refine giv_intro fun _h => ?_) | (with_reducible refine alt_intro ?_ (fun _h => ?_)) | ((first | with_reducible refine br_dec (fun _h => ?_) (fun _h => ?_) | with_reducible refine br_ndec (fun _h => ?_) (fun _h => ?_)) <;> (first | (exfalso; omega) | simp only [decide_eq_false _h] | simp only [decide_eq_true _h] | skip)) | ((first | with_reducible refine br_not (fun _h => ?_) (fun _h => ?_) | with_reducible refine br_var (fun _h => ?_) (fun _h => ?_)) <;> (try simp only [_h])) | ((with_reducible apply call_D (d1)); (focus (simp (disch := omega) only [go_sem, Nat.reduceEqDiff, ↓reduceIte, reduceCtorEq, Nat.reduceAdd, Nat.reduceMul, Int.reduceToNat, List.reduceReplicate, Nat.reduceLeDiff, Nat.reduceLT, Int.reduceLT, Int.reduceLE, Int.reduceEq, e7]; (try rfl); done))) | fail)
        · rw [if_pos ⟨_h, .inl hp⟩] at hst
          have hkeep : ∀ j, i + 1 ≤ j → posI (vowR s) w 0 j = (i : Int) := fun j hj => by
            induction j with
            | zero => omega
            | succ j ih =>
              by_cases e : j = i
              · rw [e]; exact hst
              · rw [posI, ih (by omega), if_neg (by omega)]
          rw [hkeep w.length (by omega), if_neg (by omega)]
        · refine ⟨i + 1, ⟨by omega, by omega, ?_⟩, by omega⟩
          rw [hst, if_neg (by rw [_h]; simp)]; exact hp
      · have hii : i = w.length := by omega
        subst hii
        rw [if_pos hp]
        repeat' (first | (with_reducible refine in_seq ?_) | (with_reducible refine in_reg ?_) | (with_reducible refine in_block ?_) | (with_reducible refine in_cond ?_) | (with_reducible refine in_ret ?_) | (with_reducible refine in_skip ?_) | (simp (disch := omega) only [go_sem, Nat.reduceEqDiff, ↓reduceIte, reduceCtorEq, Nat.reduceAdd, Nat.reduceMul, Int.reduceToNat, List.reduceReplicate, Nat.reduceLeDiff, Nat.reduceLT, Int.reduceLT, Int.reduceLE, Int.reduceEq]) | (with_reducible refine giv_intro fun _h => ?_) | (with_reducible refine alt_intro ?_ (fun _h => ?_)) | ((first | with_reducible refine br_dec (fun _h => ?_) (fun _h => ?_) | with_reducible refine br_ndec (fun _h => ?_) (fun _h => ?_)) <;> (first | (exfalso; omega) | simp only [decide_eq_false _h] | simp only [decide_eq_true _h] | skip)) | ((first | with_reducible refine br_not (fun _h => ?_) (fun _h => ?_) | with_reducible refine br_var (fun _h => ?_) (fun _h => ?_)) <;> (try simp only [_h])) | fail)
    · rw [hh, if_neg (by omega), if_neg (by omega), if_neg (by omega)]
      (refine fn_look s86_ok (by simp) (by intro k; simp only [go_sem, Nat.reduceEqDiff, ↓reduceIte, reduceCtorEq, Nat.reduceAdd, Nat.reduceMul, Int.reduceToNat, List.reduceReplicate, Nat.reduceLeDiff, Nat.reduceLT, Int.reduceLT, Int.reduceLE, Int.reduceEq]) fun S hS => cwp_sound _ _ _ _ ?_; simp (disch := omega) only [s86, go_sem, Nat.reduceEqDiff, ↓reduceIte, reduceCtorEq, Nat.reduceAdd, Nat.reduceMul, Int.reduceToNat, List.reduceReplicate, Nat.reduceLeDiff, Nat.reduceLT, Int.reduceLT, Int.reduceLE, Int.reduceEq])
      repeat' (first | (with_reducible refine in_seq ?_) | (with_reducible refine in_reg ?_) | (with_reducible refine in_block ?_) | (with_reducible refine in_cond ?_) | (with_reducible refine in_ret ?_) | (with_reducible refine in_skip ?_) | (simp (disch := omega) only [go_sem, Nat.reduceEqDiff, ↓reduceIte, reduceCtorEq, Nat.reduceAdd, Nat.reduceMul, Int.reduceToNat, List.reduceReplicate, Nat.reduceLeDiff, Nat.reduceLT, Int.reduceLT, Int.reduceLE, Int.reduceEq, e0]) | (with_reducible refine giv_intro fun _h => ?_) | (with_reducible refine alt_intro ?_ (fun _h => ?_)) | ((first | with_reducible refine br_dec (fun _h => ?_) (fun _h => ?_) | with_reducible refine br_ndec (fun _h => ?_) (fun _h => ?_)) <;> (first | (exfalso; omega) | simp only [decide_eq_false _h] | simp only [decide_eq_true _h] | skip)) | ((first | with_reducible refine br_not (fun _h => ?_) (fun _h => ?_) | with_reducible refine br_var (fun _h => ?_) (fun _h => ?_)) <;> (try simp only [_h])) | fail)
      rfl

def dblE0 (s : List Sound) (w : List Str) : Int := firstE [sndErr s, wordsErr [w]]
def dblL (s : List Sound) (w : List Str) (kind : Int) : List Str := headL (vowR s) (louR s) w kind ++ w
def dblT (s : List Sound) (w : List Str) (kind : Int) : List Str × Int := if dblE0 s w ≠ 0 then ([], dblE0 s w) else if kind < 0 ∨ 3 < kind then ([], 1) else (heldV (dblL s w kind), heldE (dblL s w kind))
/-- ablaut/harm.Double: 3 parameters, 0 captured -/
def s40 : SC := .seq (.reg [⟨(some 3), .box 37 1 (.t 0), none⟩,
     ⟨(some 6), .mv (.c (.slice none 0 0)), none⟩,
     ⟨(some 7), .mv (.c (.int .i64 0)), none⟩])
  (.seq (.seq (.reg [⟨(some 9), .load (some 1) (.t 3), none⟩,
       ⟨(some 10), .call (.f 51) [(.t 9)], none⟩,
       ⟨(some 11), .mv (.t 1), none⟩,
       ⟨(some 12), .buildSl 22 1 1 [(.slice none 0 0)] [(0, 1, (.t 11))], none⟩,
       ⟨(some 13), .call (.f 53) [(.t 12)], none⟩,
       ⟨(some 14), .buildSl 25 1 2 [(.int .i64 0)] [(0, 1, (.t 10)), (1, 1, (.t 13))], none⟩,
       ⟨(some 15), .call (.f 62) [(.t 14)], none⟩,
       ⟨(some 8), .mv (.t 15), none⟩])
    (.seq (.reg [⟨(some 16), .mv (.t 8), none⟩,
        ⟨(some 17), .bin .neq (.t 16) (.c (.int .i64 0)), none⟩])
     (.cond (.t 17) (.seq (.reg [⟨(some 18), .mv (.t 8), none⟩,
          ⟨(some 6), .mv (.c (.slice none 0 0)), none⟩,
          ⟨(some 7), .mv (.t 18), none⟩])
       (.ret)) (.skip))))
   (.seq (.seq (.reg [⟨(some 19), .mv (.t 2), none⟩,
        ⟨(some 20), .bin .lss (.t 19) (.c (.int .i64 0)), none⟩,
        ⟨(some 21), .mv (.t 20), none⟩,
        ⟨(some 22), .mv (.t 2), some (21, false)⟩,
        ⟨(some 23), .bin .gtr (.t 22) (.c (.int .i64 3)), some (21, false)⟩,
        ⟨(some 24), .pick (.t 21) (.c (.bool true)) (.t 23), none⟩])
     (.cond (.t 24) (.seq (.reg [⟨(some 6), .mv (.c (.slice none 0 0)), none⟩,
          ⟨(some 7), .mv (.c (.int .i64 1)), none⟩])
       (.ret)) (.skip)))
    (.seq (.reg [⟨(some 25), .load (some 1) (.t 3), none⟩,
        ⟨(some 26), .call (.f 63) [(.t 25)], none⟩,
        ⟨(some 27), .mv (.t 1), none⟩,
        ⟨(some 28), .mv (.t 2), none⟩,
        ⟨(some 29), .call (.f 85) [(.t 26), (.t 27), (.t 28)], none⟩,
        ⟨(some 30), .mv (.t 1), none⟩,
        ⟨(some 31), .buildSl 22 1 2 [(.slice none 0 0)] [(0, 1, (.t 29)), (1, 1, (.t 30))], none⟩,
        ⟨(some 32), .call (.f 75) [(.t 31)], none⟩,
        ⟨(some 33), .call (.f 68) [(.t 32)], none⟩,
        ⟨(some 34), .ext (.t 33) 0, none⟩,
        ⟨(some 35), .ext (.t 33) 1, none⟩,
        ⟨(some 6), .mv (.t 34), none⟩,
        ⟨(some 7), .mv (.t 35), none⟩])
     (.ret))))
theorem s40_ok : lookF Try.prog 40 = some (s40, 36, [.tmp 6, .tmp 7]) := by kernel_rfl
set_option maxHeartbeats 1000000 in
theorem hDouble_ok (s : List Sound) (w : List Str) (kind : Int) : Fn P 40 [sndA s, sl w, intA kind] (duo (dblT s w kind)) := by
  have c1 := hValidate_ok s
  have c3 := words_ok [w]
  have c4 := first_ok [sndErr s, wordsErr [w]]
  by_cases h : dblE0 s w = 0
  · obtain ⟨h1, h3⟩ := two_zero h
    have hw := wordErr_len (wordsErr_one h3)
    rw [show firstE [sndErr s, wordsErr [w]] = 0 from h] at c4
    by_cases hk : kind < 0 ∨ 3 < kind
    · rw [dblT, if_neg (by omega), if_pos hk]
      (refine fn_look s40_ok (by simp) (by intro k; simp only [go_sem, Nat.reduceEqDiff, ↓reduceIte, reduceCtorEq, Nat.reduceAdd, Nat.reduceMul, Int.reduceToNat, List.reduceReplicate, Nat.reduceLeDiff, Nat.reduceLT, Int.reduceLT, Int.reduceLE, Int.reduceEq]) fun S hS => cwp_sound _ _ _ _ ?_; simp (disch := omega) only [s40, go_sem, Nat.reduceEqDiff, ↓reduceIte, reduceCtorEq, Nat.reduceAdd, Nat.reduceMul, Int.reduceToNat, List.reduceReplicate, Nat.reduceLeDiff, Nat.reduceLT, Int.reduceLT, Int.reduceLE, Int.reduceEq])
      repeat' (first | (with_reducible refine in_seq ?_) | (with_reducible refine in_reg ?_) | (with_reducible refine in_block ?_) | (with_reducible refine in_cond ?_) | (with_reducible refine in_ret ?_) | (with_reducible refine in_skip ?_) | (simp (disch := omega) only [go_sem, Nat.reduceEqDiff, ↓reduceIte, reduceCtorEq, Nat.reduceAdd, Nat.reduceMul, Int.reduceToNat, List.reduceReplicate, Nat.reduceLeDiff, Nat.reduceLT, Int.reduceLT, Int.reduceLE, Int.reduceEq]) | (with_reducible refine giv_intro fun _h => ?_) | (with_reducible refine alt_intro ?_ (fun _h => ?_)) | ((first | with_reducible refine br_dec (fun _h => ?_) (fun _h => ?_) | with_reducible refine br_ndec (fun _h => ?_) (fun _h => ?_)) <;> (first | (exfalso; omega) | simp only [decide_eq_false _h] | simp only [decide_eq_true _h] | skip)) | ((first | with_reducible refine br_not (fun _h => ?_) (fun _h => ?_) | with_reducible refine br_var (fun _h => ?_) (fun _h => ?_)) <;> (try simp only [_h])) | ((with_reducible apply call (c1)); (focus (simp (disch := omega) only [go_sem, Nat.reduceEqDiff, ↓reduceIte, reduceCtorEq, Nat.reduceAdd, Nat.reduceMul, Int.reduceToNat, List.reduceReplicate, Nat.reduceLeDiff, Nat.reduceLT, Int.reduceLT, Int.reduceLE, Int.reduceEq]; (try rfl); done))) | ((with_reducible apply call_lend (c3)); (focus (simp (disch := omega) only [go_sem, Nat.reduceEqDiff, ↓reduceIte, reduceCtorEq, Nat.reduceAdd, Nat.reduceMul, Int.reduceToNat, List.reduceReplicate, Nat.reduceLeDiff, Nat.reduceLT, Int.reduceLT, Int.reduceLE, Int.reduceEq]; (try rfl); done)); (focus rfl)) | ((with_reducible apply call_lend (c4)); (focus (simp (disch := omega) only [go_sem, Nat.reduceEqDiff, ↓reduceIte, reduceCtorEq, Nat.reduceAdd, Nat.reduceMul, Int.reduceToNat, List.reduceReplicate, Nat.reduceLeDiff, Nat.reduceLT, Int.reduceLT, Int.reduceLE, Int.reduceEq]; (try rfl); done)); (focus rfl)) | fail)
      all_goals rfl
    · rw [dblT, if_neg (by omega), if_neg hk]
      have c5 := head_ok (ofM s) w kind (by omega) (by omega)
      rw [vowM_of h1, louM_of h1] at c5
      have hl := headL_len (vowR s) (louR s) w kind
      have k2 := concatS_ok [headL (vowR s) (louR s) w kind, w] (by simp) (by simp; omega)
      have ej : List.flatten [headL (vowR s) (louR s) w kind, w] = dblL s w kind := by simp [dblL]
      rw [ej] at k2
      have k3 := held_ok (dblL s w kind)
      (refine fn_look s40_ok (by simp) (by intro k; simp only [go_sem, Nat.reduceEqDiff, ↓reduceIte, reduceCtorEq, Nat.reduceAdd, Nat.reduceMul, Int.reduceToNat, List.reduceReplicate, Nat.reduceLeDiff, Nat.reduceLT, Int.reduceLT, Int.reduceLE, Int.reduceEq]) fun S hS => cwp_sound _ _ _ _ ?_; simp (disch := omega) only [s40, go_sem, Nat.reduceEqDiff, ↓reduceIte, reduceCtorEq, Nat.reduceAdd, Nat.reduceMul, Int.reduceToNat, List.reduceReplicate, Nat.reduceLeDiff, Nat.reduceLT, Int.reduceLT, Int.reduceLE, Int.reduceEq])
      repeat' (first | (with_reducible refine in_seq ?_) | (with_reducible refine in_reg ?_) | (with_reducible refine in_block ?_) | (with_reducible refine in_cond ?_) | (with_reducible refine in_ret ?_) | (with_reducible refine in_skip ?_) | (simp (disch := omega) only [go_sem, Nat.reduceEqDiff, ↓reduceIte, reduceCtorEq, Nat.reduceAdd, Nat.reduceMul, Int.reduceToNat, List.reduceReplicate, Nat.reduceLeDiff, Nat.reduceLT, Int.reduceLT, Int.reduceLE, Int.reduceEq]) | (with_reducible refine giv_intro fun _h => ?_) | (with_reducible refine alt_intro ?_ (fun _h => ?_)) | ((first | with_reducible refine br_dec (fun _h => ?_) (fun _h => ?_) | with_reducible refine br_ndec (fun _h => ?_) (fun _h => ?_)) <;> (first | (exfalso; omega) | simp only [decide_eq_false _h] | simp only [decide_eq_true _h] | skip)) | ((first | with_reducible refine br_not (fun _h => ?_) (fun _h => ?_) | with_reducible refine br_var (fun _h => ?_) (fun _h => ?_)) <;> (try simp only [_h])) | ((with_reducible apply call (c1)); (focus (simp (disch := omega) only [go_sem, Nat.reduceEqDiff, ↓reduceIte, reduceCtorEq, Nat.reduceAdd, Nat.reduceMul, Int.reduceToNat, List.reduceReplicate, Nat.reduceLeDiff, Nat.reduceLT, Int.reduceLT, Int.reduceLE, Int.reduceEq]; (try rfl); done))) | ((with_reducible apply call_lend (c3)); (focus (simp (disch := omega) only [go_sem, Nat.reduceEqDiff, ↓reduceIte, reduceCtorEq, Nat.reduceAdd, Nat.reduceMul, Int.reduceToNat, List.reduceReplicate, Nat.reduceLeDiff, Nat.reduceLT, Int.reduceLT, Int.reduceLE, Int.reduceEq]; (try rfl); done)); (focus rfl)) | ((with_reducible apply call_lend (c4)); (focus (simp (disch := omega) only [go_sem, Nat.reduceEqDiff, ↓reduceIte, reduceCtorEq, Nat.reduceAdd, Nat.reduceMul, Int.reduceToNat, List.reduceReplicate, Nat.reduceLeDiff, Nat.reduceLT, Int.reduceLT, Int.reduceLE, Int.reduceEq]; (try rfl); done)); (focus rfl)) | ((with_reducible apply call (of_ok s)); (focus (simp (disch := omega) only [go_sem, Nat.reduceEqDiff, ↓reduceIte, reduceCtorEq, Nat.reduceAdd, Nat.reduceMul, Int.reduceToNat, List.reduceReplicate, Nat.reduceLeDiff, Nat.reduceLT, Int.reduceLT, Int.reduceLE, Int.reduceEq]; (try rfl); done))) | ((with_reducible apply call (c5)); (focus (simp (disch := omega) only [go_sem, Nat.reduceEqDiff, ↓reduceIte, reduceCtorEq, Nat.reduceAdd, Nat.reduceMul, Int.reduceToNat, List.reduceReplicate, Nat.reduceLeDiff, Nat.reduceLT, Int.reduceLT, Int.reduceLE, Int.reduceEq]; (try rfl); done))) | ((with_reducible apply call_give (k2)); (focus (simp (disch := omega) only [go_sem, Nat.reduceEqDiff, ↓reduceIte, reduceCtorEq, Nat.reduceAdd, Nat.reduceMul, Int.reduceToNat, List.reduceReplicate, Nat.reduceLeDiff, Nat.reduceLT, Int.reduceLT, Int.reduceLE, Int.reduceEq]; (try rfl); done))) | ((with_reducible apply call (k3)); (focus (simp (disch := omega) only [go_sem, Nat.reduceEqDiff, ↓reduceIte, reduceCtorEq, Nat.reduceAdd, Nat.reduceMul, Int.reduceToNat, List.reduceReplicate, Nat.reduceLeDiff, Nat.reduceLT, Int.reduceLT, Int.reduceLE, Int.reduceEq]; (try rfl); done))) | fail)
  · rw [dblT, if_pos h]
    rw [show firstE [sndErr s, wordsErr [w]] = dblE0 s w from rfl] at c4
    (refine fn_look s40_ok (by simp) (by intro k; simp only [go_sem, Nat.reduceEqDiff, ↓reduceIte, reduceCtorEq, Nat.reduceAdd, Nat.reduceMul, Int.reduceToNat, List.reduceReplicate, Nat.reduceLeDiff, Nat.reduceLT, Int.reduceLT, Int.reduceLE, Int.reduceEq]) fun S hS => cwp_sound _ _ _ _ ?_; simp (disch := omega) only [s40, go_sem, Nat.reduceEqDiff, ↓reduceIte, reduceCtorEq, Nat.reduceAdd, Nat.reduceMul, Int.reduceToNat, List.reduceReplicate, Nat.reduceLeDiff, Nat.reduceLT, Int.reduceLT, Int.reduceLE, Int.reduceEq])
    repeat' (first | (with_reducible refine in_seq ?_) | (with_reducible refine in_reg ?_) | (with_reducible refine in_block ?_) | (with_reducible refine in_cond ?_) | (with_reducible refine in_ret ?_) | (with_reducible refine in_skip ?_) | (simp (disch := omega) only [go_sem, Nat.reduceEqDiff, ↓reduceIte, reduceCtorEq, Nat.reduceAdd, Nat.reduceMul, Int.reduceToNat, List.reduceReplicate, Nat.reduceLeDiff, Nat.reduceLT, Int.reduceLT, Int.reduceLE, Int.reduceEq]) | (with_reducible refine giv_intro fun _h => ?_) | (with_reducible refine alt_intro ?_ (fun _h => ?_)) | ((first | with_reducible refine br_dec (fun _h => ?_) (fun _h => ?_) | with_reducible refine br_ndec (fun _h => ?_) (fun _h => ?_)) <;> (first | (exfalso; omega) | simp only [decide_eq_false _h] | simp only [decide_eq_true _h] | skip)) | ((first | with_reducible refine br_not (fun _h => ?_) (fun _h => ?_) | with_reducible refine br_var (fun _h => ?_) (fun _h => ?_)) <;> (try simp only [_h])) | ((with_reducible apply call (c1)); (focus (simp (disch := omega) only [go_sem, Nat.reduceEqDiff, ↓reduceIte, reduceCtorEq, Nat.reduceAdd, Nat.reduceMul, Int.reduceToNat, List.reduceReplicate, Nat.reduceLeDiff, Nat.reduceLT, Int.reduceLT, Int.reduceLE, Int.reduceEq]; (try rfl); done))) | ((with_reducible apply call_lend (c3)); (focus (simp (disch := omega) only [go_sem, Nat.reduceEqDiff, ↓reduceIte, reduceCtorEq, Nat.reduceAdd, Nat.reduceMul, Int.reduceToNat, List.reduceReplicate, Nat.reduceLeDiff, Nat.reduceLT, Int.reduceLT, Int.reduceLE, Int.reduceEq]; (try rfl); done)); (focus rfl)) | ((with_reducible apply call_lend (c4)); (focus (simp (disch := omega) only [go_sem, Nat.reduceEqDiff, ↓reduceIte, reduceCtorEq, Nat.reduceAdd, Nat.reduceMul, Int.reduceToNat, List.reduceReplicate, Nat.reduceLeDiff, Nat.reduceLT, Int.reduceLT, Int.reduceLE, Int.reduceEq]; (try rfl); done)); (focus rfl)) | fail)
    rfl
/-- ablaut/ablautref13.Double: 3 parameters, 0 captured -/
def s41 : SC := .seq (.reg [⟨(some 3), .box 37 1 (.t 0), none⟩,
     ⟨(some 6), .mv (.c (.slice none 0 0)), none⟩,
     ⟨(some 7), .mv (.c (.int .i64 0)), none⟩])
  (.seq (.seq (.reg [⟨(some 9), .load (some 1) (.t 3), none⟩,
       ⟨(some 10), .mv (.t 1), none⟩,
       ⟨(some 11), .buildSl 22 1 1 [(.slice none 0 0)] [(0, 1, (.t 10))], none⟩,
       ⟨(some 12), .call (.f 65) [(.t 9), (.t 11)], none⟩,
       ⟨(some 8), .mv (.t 12), none⟩])
    (.seq (.reg [⟨(some 13), .mv (.t 8), none⟩,
        ⟨(some 14), .bin .neq (.t 13) (.c (.int .i64 0)), none⟩])
     (.cond (.t 14) (.seq (.reg [⟨(some 15), .mv (.t 8), none⟩,
          ⟨(some 6), .mv (.c (.slice none 0 0)), none⟩,
          ⟨(some 7), .mv (.t 15), none⟩])
       (.ret)) (.skip))))
   (.seq (.seq (.reg [⟨(some 16), .mv (.t 2), none⟩,
        ⟨(some 17), .bin .lss (.t 16) (.c (.int .i64 0)), none⟩,
        ⟨(some 18), .mv (.t 17), none⟩,
        ⟨(some 19), .mv (.t 2), some (18, false)⟩,
        ⟨(some 20), .bin .gtr (.t 19) (.c (.int .i64 3)), some (18, false)⟩,
        ⟨(some 21), .pick (.t 18) (.c (.bool true)) (.t 20), none⟩])
     (.cond (.t 21) (.seq (.reg [⟨(some 6), .mv (.c (.slice none 0 0)), none⟩,
          ⟨(some 7), .mv (.c (.int .i64 1)), none⟩])
       (.ret)) (.skip)))
    (.seq (.reg [⟨(some 22), .load (some 1) (.t 3), none⟩,
        ⟨(some 23), .mv (.t 1), none⟩,
        ⟨(some 24), .mv (.t 2), none⟩,
        ⟨(some 25), .call (.f 86) [(.t 22), (.t 23), (.t 24)], none⟩,
        ⟨(some 26), .mv (.t 1), none⟩,
        ⟨(some 27), .call (.f 28) [(.t 25), (.t 26)], none⟩,
        ⟨(some 28), .call (.f 71) [(.t 27)], none⟩,
        ⟨(some 29), .ext (.t 28) 0, none⟩,
        ⟨(some 30), .ext (.t 28) 1, none⟩,
        ⟨(some 6), .mv (.t 29), none⟩,
        ⟨(some 7), .mv (.t 30), none⟩])
     (.ret))))
theorem s41_ok : lookF Try.prog 41 = some (s41, 31, [.tmp 6, .tmp 7]) := by kernel_rfl
set_option maxHeartbeats 1000000 in
theorem rDouble_ok (s : List Sound) (w : List Str) (kind : Int) : Fn P 41 [sndA s, sl w, intA kind] (duo (dblT s w kind)) := by
  have c1 := rAsked_ok s [w]
  by_cases h : dblE0 s w = 0
  · obtain ⟨h1, h3⟩ := two_zero h
    have hw := wordErr_len (wordsErr_one h3)
    rw [show firstE [sndErr s, wordsErr [w]] = 0 from h] at c1
    by_cases hk : kind < 0 ∨ 3 < kind
    · rw [dblT, if_neg (by omega), if_pos hk]
      (refine fn_look s41_ok (by simp) (by intro k; simp only [go_sem, Nat.reduceEqDiff, ↓reduceIte, reduceCtorEq, Nat.reduceAdd, Nat.reduceMul, Int.reduceToNat, List.reduceReplicate, Nat.reduceLeDiff, Nat.reduceLT, Int.reduceLT, Int.reduceLE, Int.reduceEq]) fun S hS => cwp_sound _ _ _ _ ?_; simp (disch := omega) only [s41, go_sem, Nat.reduceEqDiff, ↓reduceIte, reduceCtorEq, Nat.reduceAdd, Nat.reduceMul, Int.reduceToNat, List.reduceReplicate, Nat.reduceLeDiff, Nat.reduceLT, Int.reduceLT, Int.reduceLE, Int.reduceEq])
      repeat' (first | (with_reducible refine in_seq ?_) | (with_reducible refine in_reg ?_) | (with_reducible refine in_block ?_) | (with_reducible refine in_cond ?_) | (with_reducible refine in_ret ?_) | (with_reducible refine in_skip ?_) | (simp (disch := omega) only [go_sem, Nat.reduceEqDiff, ↓reduceIte, reduceCtorEq, Nat.reduceAdd, Nat.reduceMul, Int.reduceToNat, List.reduceReplicate, Nat.reduceLeDiff, Nat.reduceLT, Int.reduceLT, Int.reduceLE, Int.reduceEq]) | (with_reducible refine giv_intro fun _h => ?_) | (with_reducible refine alt_intro ?_ (fun _h => ?_)) | ((first | with_reducible refine br_dec (fun _h => ?_) (fun _h => ?_) | with_reducible refine br_ndec (fun _h => ?_) (fun _h => ?_)) <;> (first | (exfalso; omega) | simp only [decide_eq_false _h] | simp only [decide_eq_true _h] | skip)) | ((first | with_reducible refine br_not (fun _h => ?_) (fun _h => ?_) | with_reducible refine br_var (fun _h => ?_) (fun _h => ?_)) <;> (try simp only [_h])) | ((with_reducible apply call_lend (c1)); (focus (simp (disch := omega) only [go_sem, Nat.reduceEqDiff, ↓reduceIte, reduceCtorEq, Nat.reduceAdd, Nat.reduceMul, Int.reduceToNat, List.reduceReplicate, Nat.reduceLeDiff, Nat.reduceLT, Int.reduceLT, Int.reduceLE, Int.reduceEq]; (try rfl); done)); (focus rfl)) | fail)
      all_goals rfl
    · rw [dblT, if_neg (by omega), if_neg hk]
      have c5 := ahead_ok s w kind (by omega) (by omega)
      have hl := headL_len (vowR s) (louR s) w kind
      have k2 := join_ok (headL (vowR s) (louR s) w kind) w (by omega)
      have k3 := short_ok (dblL s w kind)
      rw [show headL (vowR s) (louR s) w kind ++ w = dblL s w kind from rfl] at k2
      (refine fn_look s41_ok (by simp) (by intro k; simp only [go_sem, Nat.reduceEqDiff, ↓reduceIte, reduceCtorEq, Nat.reduceAdd, Nat.reduceMul, Int.reduceToNat, List.reduceReplicate, Nat.reduceLeDiff, Nat.reduceLT, Int.reduceLT, Int.reduceLE, Int.reduceEq]) fun S hS => cwp_sound _ _ _ _ ?_; simp (disch := omega) only [s41, go_sem, Nat.reduceEqDiff, ↓reduceIte, reduceCtorEq, Nat.reduceAdd, Nat.reduceMul, Int.reduceToNat, List.reduceReplicate, Nat.reduceLeDiff, Nat.reduceLT, Int.reduceLT, Int.reduceLE, Int.reduceEq])
      repeat' (first | (with_reducible refine in_seq ?_) | (with_reducible refine in_reg ?_) | (with_reducible refine in_block ?_) | (with_reducible refine in_cond ?_) | (with_reducible refine in_ret ?_) | (with_reducible refine in_skip ?_) | (simp (disch := omega) only [go_sem, Nat.reduceEqDiff, ↓reduceIte, reduceCtorEq, Nat.reduceAdd, Nat.reduceMul, Int.reduceToNat, List.reduceReplicate, Nat.reduceLeDiff, Nat.reduceLT, Int.reduceLT, Int.reduceLE, Int.reduceEq]) | (with_reducible refine giv_intro fun _h => ?_) | (with_reducible refine alt_intro ?_ (fun _h => ?_)) | ((first | with_reducible refine br_dec (fun _h => ?_) (fun _h => ?_) | with_reducible refine br_ndec (fun _h => ?_) (fun _h => ?_)) <;> (first | (exfalso; omega) | simp only [decide_eq_false _h] | simp only [decide_eq_true _h] | skip)) | ((first | with_reducible refine br_not (fun _h => ?_) (fun _h => ?_) | with_reducible refine br_var (fun _h => ?_) (fun _h => ?_)) <;> (try simp only [_h])) | ((with_reducible apply call_lend (c1)); (focus (simp (disch := omega) only [go_sem, Nat.reduceEqDiff, ↓reduceIte, reduceCtorEq, Nat.reduceAdd, Nat.reduceMul, Int.reduceToNat, List.reduceReplicate, Nat.reduceLeDiff, Nat.reduceLT, Int.reduceLT, Int.reduceLE, Int.reduceEq]; (try rfl); done)); (focus rfl)) | ((with_reducible apply call (c5)); (focus (simp (disch := omega) only [go_sem, Nat.reduceEqDiff, ↓reduceIte, reduceCtorEq, Nat.reduceAdd, Nat.reduceMul, Int.reduceToNat, List.reduceReplicate, Nat.reduceLeDiff, Nat.reduceLT, Int.reduceLT, Int.reduceLE, Int.reduceEq]; (try rfl); done))) | ((with_reducible apply call (k2)); (focus (simp (disch := omega) only [go_sem, Nat.reduceEqDiff, ↓reduceIte, reduceCtorEq, Nat.reduceAdd, Nat.reduceMul, Int.reduceToNat, List.reduceReplicate, Nat.reduceLeDiff, Nat.reduceLT, Int.reduceLT, Int.reduceLE, Int.reduceEq]; (try rfl); done))) | ((with_reducible apply call (k3)); (focus (simp (disch := omega) only [go_sem, Nat.reduceEqDiff, ↓reduceIte, reduceCtorEq, Nat.reduceAdd, Nat.reduceMul, Int.reduceToNat, List.reduceReplicate, Nat.reduceLeDiff, Nat.reduceLT, Int.reduceLT, Int.reduceLE, Int.reduceEq]; (try rfl); done))) | fail)
  · rw [dblT, if_pos h]
    rw [show firstE [sndErr s, wordsErr [w]] = dblE0 s w from rfl] at c1
    (refine fn_look s41_ok (by simp) (by intro k; simp only [go_sem, Nat.reduceEqDiff, ↓reduceIte, reduceCtorEq, Nat.reduceAdd, Nat.reduceMul, Int.reduceToNat, List.reduceReplicate, Nat.reduceLeDiff, Nat.reduceLT, Int.reduceLT, Int.reduceLE, Int.reduceEq]) fun S hS => cwp_sound _ _ _ _ ?_; simp (disch := omega) only [s41, go_sem, Nat.reduceEqDiff, ↓reduceIte, reduceCtorEq, Nat.reduceAdd, Nat.reduceMul, Int.reduceToNat, List.reduceReplicate, Nat.reduceLeDiff, Nat.reduceLT, Int.reduceLT, Int.reduceLE, Int.reduceEq])
    repeat' (first | (with_reducible refine in_seq ?_) | (with_reducible refine in_reg ?_) | (with_reducible refine in_block ?_) | (with_reducible refine in_cond ?_) | (with_reducible refine in_ret ?_) | (with_reducible refine in_skip ?_) | (simp (disch := omega) only [go_sem, Nat.reduceEqDiff, ↓reduceIte, reduceCtorEq, Nat.reduceAdd, Nat.reduceMul, Int.reduceToNat, List.reduceReplicate, Nat.reduceLeDiff, Nat.reduceLT, Int.reduceLT, Int.reduceLE, Int.reduceEq]) | (with_reducible refine giv_intro fun _h => ?_) | (with_reducible refine alt_intro ?_ (fun _h => ?_)) | ((first | with_reducible refine br_dec (fun _h => ?_) (fun _h => ?_) | with_reducible refine br_ndec (fun _h => ?_) (fun _h => ?_)) <;> (first | (exfalso; omega) | simp only [decide_eq_false _h] | simp only [decide_eq_true _h] | skip)) | ((first | with_reducible refine br_not (fun _h => ?_) (fun _h => ?_) | with_reducible refine br_var (fun _h => ?_) (fun _h => ?_)) <;> (try simp only [_h])) | ((with_reducible apply call_lend (c1)); (focus (simp (disch := omega) only [go_sem, Nat.reduceEqDiff, ↓reduceIte, reduceCtorEq, Nat.reduceAdd, Nat.reduceMul, Int.reduceToNat, List.reduceReplicate, Nat.reduceLeDiff, Nat.reduceLT, Int.reduceLT, Int.reduceLE, Int.reduceEq]; (try rfl); done)); (focus rfl)) | fail)
    rfl
end Go.Proofs.Ytpfoflhhbkjngaa.Ev

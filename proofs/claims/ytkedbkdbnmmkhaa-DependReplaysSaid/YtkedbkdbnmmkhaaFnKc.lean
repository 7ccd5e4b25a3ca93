/- Frames and hooks: which there are. -/
import Derived.Test.YtkedbkdbnmmkhaaFnKb
set_option linter.unusedVariables false
set_option linter.unusedSimpArgs false
namespace Go.Proofs.Ytkedbkdbnmmkhaa.Ev
open Go Go.Proofs

def SmS (l : List Str) : Prop := l.length ≤ 100000 ∧ ∀ s ∈ l, s.size ≤ 100000
def SmH (l : List Hung) : Prop := l.length ≤ 100000 ∧ ∀ h ∈ l, h.2.2.size ≤ 100000 ∧ SmS h.1
def SmK (l : List Hook) : Prop := l.length ≤ 100000 ∧ ∀ h ∈ l, SmS h.1 ∧ SmS h.2.1 ∧ SmS h.2.2.1 ∧ h.2.2.2.2.2.size ≤ 100000
theorem SmS.sizes {l : List Str} (h : SmS l) : ∀ s ∈ l, s.size ≤ 4611686018427387904 := fun s hs => by have := h.2 s hs; omega
theorem SmS.len {l : List Str} (h : SmS l) : l.length ≤ 4611686018427387904 := by have := h.1; omega
def labB (h : Hung) : Bool := if h.2.1 = -2 then decide (h.2.2 = ⟨#[]⟩) else nameB h.2.2
def goodH (n : Nat) (h : Hung) : Bool := setB h.1 && (decide (-2 ≤ h.2.1) && (decide (h.2.1 < n) && labB h))
def formE (l : List Hung) : Int := if 200 < l.length ∨ (l.any fun h => decide (16 < h.1.length)) = true then 3 else if l.all (goodH l.length) = true then 0 else 1
theorem formE_hds {l : List Hung} (h : formE l = 0) : Hds l := by
  unfold formE at h
  split at h
  · cases h
  · split at h
    · rename_i h2
      intro i hi
      have := List.all_eq_true.1 h2 _ (nth_mem hi)
      simp only [goodH, Bool.and_eq_true, decide_eq_true_eq] at this
      exact ⟨this.2.1, this.2.2.1⟩
    · cases h
theorem formE_len {l : List Hung} (h : formE l = 0) : l.length ≤ 200 := by
  unfold formE at h
  split at h
  · cases h
  · rename_i h1; omega
/-- ablaut/depend.formed$1: 1 parameters, 0 captured -/
def s80 : SC := .seq (.reg [⟨(some 1), .box 34 3 (.t 0), none⟩,
     ⟨(some 2), .mv (.c (.bool false)), none⟩])
  (.seq (.reg [⟨(some 3), .faddr 0 (.t 1), none⟩,
      ⟨(some 4), .load none (.t 3), none⟩,
      ⟨(some 5), .lenL (.t 4), none⟩,
      ⟨(some 6), .bin .gtr (.t 5) (.c (.int .i64 16)), none⟩,
      ⟨(some 2), .mv (.t 6), none⟩])
   (.ret))
theorem s80_ok : lookF Try.prog 80 = some (s80, 7, [.tmp 2]) := by kernel_rfl
theorem long1_ok (h : Hung) : Fn P 80 [valA h] (boolA (decide (16 < h.1.length))) := by
  rw [valA_hung]
  (refine fn_look s80_ok (by simp) (by intro k; simp only [go_sem, Nat.reduceEqDiff, ↓reduceIte, reduceCtorEq, Nat.reduceAdd, Nat.reduceMul, Int.reduceToNat, List.reduceReplicate, Nat.reduceLeDiff, Nat.reduceLT, Int.reduceLT, Int.reduceLE, Int.reduceEq]) fun S hS => cwp_sound _ _ _ _ ?_; simp (disch := omega) only [s80, go_sem, Nat.reduceEqDiff, ↓reduceIte, reduceCtorEq, Nat.reduceAdd, Nat.reduceMul, Int.reduceToNat, List.reduceReplicate, Nat.reduceLeDiff, Nat.reduceLT, Int.reduceLT, Int.reduceLE, Int.reduceEq])
  repeat' (first | (with_reducible refine in_seq ?_) | (with_reducible refine in_reg ?_) | (with_reducible refine in_block ?_) | (with_reducible refine in_cond ?_) | (with_reducible refine in_ret ?_) | (with_reducible refine in_skip ?_) | (simp (disch := omega) only [go_sem, Nat.reduceEqDiff, ↓reduceIte, reduceCtorEq, Nat.reduceAdd, Nat.reduceMul, Int.reduceToNat, List.reduceReplicate, Nat.reduceLeDiff, Nat.reduceLT, Int.reduceLT, Int.reduceLE, Int.reduceEq]) | (with_reducible refine giv_intro fun _h => ?_) | (with_reducible refine alt_intro ?_ (fun _h => ?_)) | ((first | with_reducible refine br_dec (fun _h => ?_) (fun _h => ?_) | with_reducible refine br_ndec (fun _h => ?_) (fun _h => ?_)) <;> (first | (exfalso; omega) | simp only [decide_eq_false _h] | simp only [decide_eq_true _h] | skip)) | ((first | with_reducible refine br_not (fun _h => ?_) (fun _h => ?_) | with_reducible refine br_var (fun _h => ?_) (fun _h => ?_)) <;> (try simp only [_h])) | fail)
  rw [Bool.eq_iff_iff]; simp; omega
theorem all_step {α : Type} {k : Nat} [Enc α k] {l : List α} {p : α → Bool} {i : Nat} (hi : i < l.length) (hI : l.all p = (l.drop i).all p) : l.all p = (p (nth l i) && (l.drop (i + 1)).all p) := by rw [hI, nth_drop hi, List.all_cons]
theorem any_step {α : Type} {k : Nat} [Enc α k] {l : List α} {p : α → Bool} {i : Nat} (hi : i < l.length) (hI : l.any p = (l.drop i).any p) : l.any p = (p (nth l i) || (l.drop (i + 1)).any p) := by rw [hI, nth_drop hi, List.any_cons]
/-- ablaut/depend.formed: 1 parameters, 0 captured -/
def s50 : SC := .seq (.reg [⟨(some 2), .mv (.c (.int .i64 0)), none⟩])
  (.seq (.seq (.reg [⟨(some 6), .mv (.t 0), none⟩,
       ⟨(some 7), .lenL (.t 6), none⟩,
       ⟨(some 8), .bin .gtr (.t 7) (.c (.int .i64 200)), none⟩,
       ⟨(some 9), .mv (.t 8), none⟩,
       ⟨(some 10), .mv (.t 0), some (9, false)⟩,
       ⟨(some 11), .call (.f 79) [(.t 10), (.f 80)], some (9, false)⟩,
       ⟨(some 12), .pick (.t 9) (.c (.bool true)) (.t 11), none⟩])
    (.cond (.t 12) (.seq (.reg [⟨(some 2), .mv (.c (.int .i64 3)), none⟩])
      (.ret)) (.skip)))
   (.seq (.seq (.reg [⟨(some 13), .mv (.t 0), none⟩,
        ⟨(some 14), .lenL (.t 13), none⟩,
        ⟨(some 15), .mv (.c (.int .i64 0)), none⟩])
     (.block 0 (.loop (.seq (.reg [⟨(some 16), .bin .lss (.t 15) (.t 14), none⟩])
        (.seq (.cond (.t 16) (.skip) (.exit 0))
         (.seq (.block 1 (.seq (.reg [⟨(some 17), .iaddr 3 (.t 13) (.t 15), none⟩,
               ⟨(some 18), .load (some 3) (.t 17), none⟩,
               ⟨(some 4), .alloc 34 3 [(.slice none 0 0), (.int .i64 0), (.string ⟨#[]⟩)], none⟩,
               ⟨none, .store 3 (.t 4) (.t 18), none⟩])
            (.seq (.reg [⟨(some 19), .faddr 2 (.t 4), none⟩,
                ⟨(some 20), .load none (.t 19), none⟩,
                ⟨(some 21), .bin .eql (.t 20) (.c (.string ⟨#[]⟩)), none⟩,
                ⟨(some 5), .mv (.t 21), none⟩])
             (.seq (.seq (.reg [⟨(some 22), .faddr 1 (.t 4), none⟩,
                  ⟨(some 23), .load none (.t 22), none⟩,
                  ⟨(some 24), .bin .neq (.t 23) (.c (.int .i64 (-2))), none⟩])
               (.cond (.t 24) (.reg [⟨(some 25), .faddr 2 (.t 4), none⟩,
                   ⟨(some 26), .load none (.t 25), none⟩,
                   ⟨(some 27), .call (.f 68) [(.t 26)], none⟩,
                   ⟨(some 5), .mv (.t 27), none⟩]) (.skip)))
              (.seq (.reg [⟨(some 28), .faddr 0 (.t 4), none⟩,
                  ⟨(some 29), .load none (.t 28), none⟩,
                  ⟨(some 30), .call (.f 56) [(.t 29)], none⟩,
                  ⟨(some 31), .un .not (.t 30), none⟩,
                  ⟨(some 32), .mv (.t 31), none⟩,
                  ⟨(some 33), .faddr 1 (.t 4), some (32, false)⟩,
                  ⟨(some 34), .load none (.t 33), some (32, false)⟩,
                  ⟨(some 35), .bin .lss (.t 34) (.c (.int .i64 (-2))), some (32, false)⟩,
                  ⟨(some 36), .pick (.t 32) (.c (.bool true)) (.t 35), none⟩,
                  ⟨(some 37), .mv (.t 36), none⟩,
                  ⟨(some 38), .faddr 1 (.t 4), some (37, false)⟩,
                  ⟨(some 39), .load none (.t 38), some (37, false)⟩,
                  ⟨(some 40), .mv (.t 0), some (37, false)⟩,
                  ⟨(some 41), .lenL (.t 40), some (37, false)⟩,
                  ⟨(some 42), .bin .geq (.t 39) (.t 41), some (37, false)⟩,
                  ⟨(some 43), .pick (.t 37) (.c (.bool true)) (.t 42), none⟩,
                  ⟨(some 44), .mv (.t 43), none⟩,
                  ⟨(some 45), .mv (.t 5), some (44, false)⟩,
                  ⟨(some 46), .un .not (.t 45), some (44, false)⟩,
                  ⟨(some 47), .pick (.t 44) (.c (.bool true)) (.t 46), none⟩])
               (.cond (.t 47) (.seq (.reg [⟨(some 2), .mv (.c (.int .i64 1)), none⟩])
                 (.ret)) (.skip)))))))
          (.reg [⟨(some 48), .bin .add (.t 15) (.c (.int .i64 1)), none⟩,
             ⟨(some 15), .mv (.t 48), none⟩])))))))
    (.seq (.reg [⟨(some 2), .mv (.c (.int .i64 0)), none⟩])
     (.ret))))
theorem s50_ok : lookF Try.prog 50 = some (s50, 49, [.tmp 2]) := by kernel_rfl
set_option maxHeartbeats 1000000 in
theorem formed_ok (l : List Hung) (hs : SmH l) : Fn P 50 [sl l] (intA (formE l)) := by
  have c1 := hngAny_ok l (fun h => decide (16 < h.1.length)) 80 [] (by simp) (fun h _ => long1_ok h)
  by_cases hL : 200 < l.length ∨ (l.any fun h => decide (16 < h.1.length)) = true
  · rw [formE, if_pos hL]
    by_cases hL2 : 200 < l.length
    · (refine fn_look s50_ok (by simp) (by intro k; simp only [go_sem, Nat.reduceEqDiff, ↓reduceIte, reduceCtorEq, Nat.reduceAdd, Nat.reduceMul, Int.reduceToNat, List.reduceReplicate, Nat.reduceLeDiff, Nat.reduceLT, Int.reduceLT, Int.reduceLE, Int.reduceEq]) fun S hS => cwp_sound _ _ _ _ ?_; simp (disch := omega) only [s50, go_sem, Nat.reduceEqDiff, ↓reduceIte, reduceCtorEq, Nat.reduceAdd, Nat.reduceMul, Int.reduceToNat, List.reduceReplicate, Nat.reduceLeDiff, Nat.reduceLT, Int.reduceLT, Int.reduceLE, Int.reduceEq])
      repeat' (first | (with_reducible refine in_seq ?_) | (with_reducible refine in_reg ?_) | (with_reducible refine in_block ?_) | (with_reducible refine in_cond ?_) | (with_reducible refine in_ret ?_) | (with_reducible refine in_skip ?_) | (simp (disch := omega) only [go_sem, Nat.reduceEqDiff, ↓reduceIte, reduceCtorEq, Nat.reduceAdd, Nat.reduceMul, Int.reduceToNat, List.reduceReplicate, Nat.reduceLeDiff, Nat.reduceLT, Int.reduceLT, Int.reduceLE, Int.reduceEq]) | (with_reducible refine giv_intro fun _h => ?_) | (with_reducible refine alt_intro ?_ (fun _h => ?_)) | ((first | with_reducible refine br_dec (fun _h => ?_) (fun _h => ?_) | with_reducible refine br_ndec (fun _h => ?_) (fun _h => ?_)) <;> (first | (exfalso; omega) | simp only [decide_eq_false _h] | simp only [decide_eq_true _h] | skip)) | ((first | with_reducible refine br_not (fun _h => ?_) (fun _h => ?_) | with_reducible refine br_var (fun _h => ?_) (fun _h => ?_)) <;> (try simp only [_h])) | ((with_reducible apply call (c1)); (focus (simp (disch := omega) only [go_sem, Nat.reduceEqDiff, ↓reduceIte, reduceCtorEq, Nat.reduceAdd, Nat.reduceMul, Int.reduceToNat, List.reduceReplicate, Nat.reduceLeDiff, Nat.reduceLT, Int.reduceLT, Int.reduceLE, Int.reduceEq]; (try rfl); done))) | fail)
    · have hL3 := hL.resolve_left hL2
      rw [hL3] at c1
      (refine fn_look s50_ok (by simp) (by intro k; simp only [go_sem, Nat.reduceEqDiff, ↓reduceIte, reduceCtorEq, Nat.reduceAdd, Nat.reduceMul, Int.reduceToNat, List.reduceReplicate, Nat.reduceLeDiff, Nat.reduceLT, Int.reduceLT, Int.reduceLE, Int.reduceEq]) fun S hS => cwp_sound _ _ _ _ ?_; simp (disch := omega) only [s50, go_sem, Nat.reduceEqDiff, ↓reduceIte, reduceCtorEq, Nat.reduceAdd, Nat.reduceMul, Int.reduceToNat, List.reduceReplicate, Nat.reduceLeDiff, Nat.reduceLT, Int.reduceLT, Int.reduceLE, Int.reduceEq])
      repeat' (first | (with_reducible refine in_seq ?_) | (with_reducible refine in_reg ?_) | (with_reducible refine in_block ?_) | (with_reducible refine in_cond ?_) | (with_reducible refine in_ret ?_) | (with_reducible refine in_skip ?_) | (simp (disch := omega) only [go_sem, Nat.reduceEqDiff, ↓reduceIte, reduceCtorEq, Nat.reduceAdd, Nat.reduceMul, Int.reduceToNat, List.reduceReplicate, Nat.reduceLeDiff, Nat.reduceLT, Int.reduceLT, Int.reduceLE, Int.reduceEq]) | (with_reducible refine giv_intro fun _h => ?_) | (with_reducible refine alt_intro ?_ (fun _h => ?_)) | ((first | with_reducible refine br_dec (fun _h => ?_) (fun _h => ?_) | with_reducible refine br_ndec (fun _h => ?_) (fun _h => ?_)) <;> (first | (exfalso; omega) | simp only [decide_eq_false _h] | simp only [decide_eq_true _h] | skip)) | ((first | with_reducible refine br_not (fun _h => ?_) (fun _h => ?_) | with_reducible refine br_var (fun _h => ?_) (fun _h => ?_)) <;> (try simp only [_h])) | ((with_reducible apply call (c1)); (focus (simp (disch := omega) only [go_sem, Nat.reduceEqDiff, ↓reduceIte, reduceCtorEq, Nat.reduceAdd, Nat.reduceMul, Int.reduceToNat, List.reduceReplicate, Nat.reduceLeDiff, Nat.reduceLT, Int.reduceLT, Int.reduceLE, Int.reduceEq]; (try rfl); done))) | fail)
  · rw [formE, if_neg hL]
    have hL2 : ¬200 < l.length := fun h => hL (.inl h)
    have hL3 : (l.any fun h => decide (16 < h.1.length)) = false := by rw [← Bool.not_eq_true]; exact fun h => hL (.inr h)
    rw [hL3] at c1
    (refine fn_look s50_ok (by simp) (by intro k; simp only [go_sem, Nat.reduceEqDiff, ↓reduceIte, reduceCtorEq, Nat.reduceAdd, Nat.reduceMul, Int.reduceToNat, List.reduceReplicate, Nat.reduceLeDiff, Nat.reduceLT, Int.reduceLT, Int.reduceLE, Int.reduceEq]) fun S hS => cwp_sound _ _ _ _ ?_; simp (disch := omega) only [s50, go_sem, Nat.reduceEqDiff, ↓reduceIte, reduceCtorEq, Nat.reduceAdd, Nat.reduceMul, Int.reduceToNat, List.reduceReplicate, Nat.reduceLeDiff, Nat.reduceLT, Int.reduceLT, Int.reduceLE, Int.reduceEq])
    repeat' (first | (with_reducible refine in_seq ?_) | (with_reducible refine in_reg ?_) | (with_reducible refine in_block ?_) | (with_reducible refine in_cond ?_) | (with_reducible refine in_ret ?_) | (with_reducible refine in_skip ?_) | (simp (disch := omega) only [go_sem, Nat.reduceEqDiff, ↓reduceIte, reduceCtorEq, Nat.reduceAdd, Nat.reduceMul, Int.reduceToNat, List.reduceReplicate, Nat.reduceLeDiff, Nat.reduceLT, Int.reduceLT, Int.reduceLE, Int.reduceEq]) | (with_reducible refine giv_intro fun _h => ?_) | (with_reducible refine alt_intro ?_ (fun _h => ?_)) | ((first | with_reducible refine br_dec (fun _h => ?_) (fun _h => ?_) | with_reducible refine br_ndec (fun _h => ?_) (fun _h => ?_)) <;> (first | (exfalso; omega) | simp only [decide_eq_false _h] | simp only [decide_eq_true _h] | skip)) | ((first | with_reducible refine br_not (fun _h => ?_) (fun _h => ?_) | with_reducible refine br_var (fun _h => ?_) (fun _h => ?_)) <;> (try simp only [_h])) | ((with_reducible apply call (c1)); (focus (simp (disch := omega) only [go_sem, Nat.reduceEqDiff, ↓reduceIte, reduceCtorEq, Nat.reduceAdd, Nat.reduceMul, Int.reduceToNat, List.reduceReplicate, Nat.reduceLeDiff, Nat.reduceLT, Int.reduceLT, Int.reduceLE, Int.reduceEq]; (try rfl); done))) | fail)
    (refine loopC hS [0, 13, 14] (by simp only [go_sem, Nat.reduceEqDiff, ↓reduceIte, reduceCtorEq, Nat.reduceAdd, Nat.reduceMul, Int.reduceToNat, List.reduceReplicate, Nat.reduceLeDiff, Nat.reduceLT, Int.reduceLT, Int.reduceLE, Int.reduceEq]; try rfl) (fun (i : Nat) => [(15, intA i)]) (fun (i : Nat) => []) (fun (i : Nat) => i ≤ l.length ∧ l.all (goodH l.length) = (l.drop i).all (goodH l.length)) (fun (i : Nat) => l.length - i) (0) ?h01 ?hn1 ?rd1; case hn1 => (intro s; first | rfl | (rcases s with ⟨_, _⟩; rfl) | (rcases s with ⟨_, _, _⟩; rfl) | (rcases s with ⟨_, _, _, _⟩; rfl) | (rcases s with ⟨_, _, _, _, _⟩; rfl)))
    · simp (disch := omega) only [go_sem, Nat.reduceEqDiff, ↓reduceIte, reduceCtorEq, Nat.reduceAdd, Nat.reduceMul, Int.reduceToNat, List.reduceReplicate, Nat.reduceLeDiff, Nat.reduceLT, Int.reduceLT, Int.reduceLE, Int.reduceEq]; simp
    rintro i ⟨hi, hI⟩
    replace hi : i ≤ l.length := hi
    replace hI : l.all (goodH l.length) = (l.drop i).all (goodH l.length) := hI
    by_cases hil : i < l.length
    · have hst := all_step hil hI
      obtain ⟨hz1, hz2⟩ := hs.2 _ (nth_mem hil)
      have c2 := isName_ok (nth l i).2.2 (by omega)
      have c3 := isSet_ok (nth l i).1 hz2.sizes
      have hg : goodH l.length (nth l i) = (setB (nth l i).1 && (decide (-2 ≤ (nth l i).2.1) && (decide ((nth l i).2.1 < l.length) && labB (nth l i)))) := rfl
      have bad : goodH l.length (nth l i) = false → (1 : Int) = if l.all (goodH l.length) = true then 0 else 1 := fun h => by rw [hst, h]; rfl
      have good : goodH l.length (nth l i) = true → l.all (goodH l.length) = (l.drop (i + 1)).all (goodH l.length) := fun h => by rw [hst, h, Bool.true_and]
      by_cases h2 : (nth l i).2.1 = -2
      · have hlab : labB (nth l i) = decide ((nth l i).2.2 = ⟨#[]⟩) := by rw [labB, if_pos h2]
        rw [hlab] at hg
        repeat' (first | (with_reducible refine in_seq ?_) | (with_reducible refine in_reg ?_) | (with_reducible refine in_block ?_) | (with_reducible refine in_cond ?_) | (with_reducible refine in_ret ?_) | (with_reducible refine in_skip ?_) | (simp (disch := omega) only [go_sem, Nat.reduceEqDiff, ↓reduceIte, reduceCtorEq, Nat.reduceAdd, Nat.reduceMul, Int.reduceToNat, List.reduceReplicate, Nat.reduceLeDiff, Nat.reduceLT, Int.reduceLT, Int.reduceLE, Int.reduceEq, h2]) | (with_reducible refine giv_intro fun _h => ?_) | (with_reducible refine alt_intro ?_ (fun _h => ?_)) | ((first | with_reducible refine br_dec (fun _h => ?_) (fun _h => ?_) | with_reducible refine br_ndec (fun _h => ?_) (fun _h => ?_)) <;> (first | (exfalso; omega) | simp only [decide_eq_false _h] | simp only [decide_eq_true _h] | skip)) | ((first | with_reducible refine br_not (fun _h => ?_) (fun _h => ?_) | with_reducible refine br_var (fun _h => ?_) (fun _h => ?_)) <;> (try simp only [_h])) | ((with_reducible apply call (c2)); (focus (simp (disch := omega) only [go_sem, Nat.reduceEqDiff, ↓reduceIte, reduceCtorEq, Nat.reduceAdd, Nat.reduceMul, Int.reduceToNat, List.reduceReplicate, Nat.reduceLeDiff, Nat.reduceLT, Int.reduceLT, Int.reduceLE, Int.reduceEq, h2]; (try rfl); done))) | ((with_reducible apply call (c3)); (focus (simp (disch := omega) only [go_sem, Nat.reduceEqDiff, ↓reduceIte, reduceCtorEq, Nat.reduceAdd, Nat.reduceMul, Int.reduceToNat, List.reduceReplicate, Nat.reduceLeDiff, Nat.reduceLT, Int.reduceLT, Int.reduceLE, Int.reduceEq, h2]; (try rfl); done))) | fail)
        all_goals first
          | exact bad (by rw [hg, ← Bool.not_eq_true]; simp only [Bool.and_eq_true, decide_eq_true_eq]; rintro ⟨q1, q2, q3, q4⟩; first | omega | (rw [q1] at _h; cases _h) | exact _h q4 | (rw [q4] at _h; cases _h))
          | exact ⟨i + 1, ⟨by omega, by omega, good (by rw [hg]; simp only [Bool.and_eq_true, decide_eq_true_eq]; exact ⟨by assumption, by omega, by omega, by assumption⟩)⟩, by omega⟩
      · have hlab : labB (nth l i) = nameB (nth l i).2.2 := by rw [labB, if_neg h2]
        rw [hlab] at hg
        repeat' (first | (with_reducible refine in_seq ?_) | (with_reducible refine in_reg ?_) | (with_reducible refine in_block ?_) | (with_reducible refine in_cond ?_) | (with_reducible refine in_ret ?_) | (with_reducible refine in_skip ?_) | (simp (disch := omega) only [go_sem, Nat.reduceEqDiff, ↓reduceIte, reduceCtorEq, Nat.reduceAdd, Nat.reduceMul, Int.reduceToNat, List.reduceReplicate, Nat.reduceLeDiff, Nat.reduceLT, Int.reduceLT, Int.reduceLE, Int.reduceEq, h2]) | (with_reducible refine giv_intro fun _h => ?_) | (with_reducible refine alt_intro ?_ (fun _h => ?_)) | ((first | with_reducible refine br_dec (fun _h => ?_) (fun _h => ?_) | with_reducible refine br_ndec (fun _h => ?_) (fun _h => ?_)) <;> (first | (exfalso; omega) | simp only [decide_eq_false _h] | simp only [decide_eq_true _h] | skip)) | ((first | with_reducible refine br_not (fun _h => ?_) (fun _h => ?_) | with_reducible refine br_var (fun _h => ?_) (fun _h => ?_)) <;> (try simp only [_h])) | ((with_reducible apply call (c2)); (focus (simp (disch := omega) only [go_sem, Nat.reduceEqDiff, ↓reduceIte, reduceCtorEq, Nat.reduceAdd, Nat.reduceMul, Int.reduceToNat, List.reduceReplicate, Nat.reduceLeDiff, Nat.reduceLT, Int.reduceLT, Int.reduceLE, Int.reduceEq, h2]; (try rfl); done))) | ((with_reducible apply call (c3)); (focus (simp (disch := omega) only [go_sem, Nat.reduceEqDiff, ↓reduceIte, reduceCtorEq, Nat.reduceAdd, Nat.reduceMul, Int.reduceToNat, List.reduceReplicate, Nat.reduceLeDiff, Nat.reduceLT, Int.reduceLT, Int.reduceLE, Int.reduceEq, h2]; (try rfl); done))) | fail)
        all_goals first
          | exact bad (by rw [hg, ← Bool.not_eq_true]; simp only [Bool.and_eq_true, decide_eq_true_eq]; rintro ⟨q1, q2, q3, q4⟩; first | omega | (rw [q1] at _h; cases _h) | exact _h q4 | (rw [q4] at _h; cases _h))
          | exact ⟨i + 1, ⟨by omega, by omega, good (by rw [hg]; simp only [Bool.and_eq_true, decide_eq_true_eq]; exact ⟨by assumption, by omega, by omega, by assumption⟩)⟩, by omega⟩
    · rw [List.drop_eq_nil_of_le (by omega)] at hI
      rw [hI]
      repeat' (first | (with_reducible refine in_seq ?_) | (with_reducible refine in_reg ?_) | (with_reducible refine in_block ?_) | (with_reducible refine in_cond ?_) | (with_reducible refine in_ret ?_) | (with_reducible refine in_skip ?_) | (simp (disch := omega) only [go_sem, Nat.reduceEqDiff, ↓reduceIte, reduceCtorEq, Nat.reduceAdd, Nat.reduceMul, Int.reduceToNat, List.reduceReplicate, Nat.reduceLeDiff, Nat.reduceLT, Int.reduceLT, Int.reduceLE, Int.reduceEq]) | (with_reducible refine giv_intro fun _h => ?_) | (with_reducible refine alt_intro ?_ (fun _h => ?_)) | ((first | with_reducible refine br_dec (fun _h => ?_) (fun _h => ?_) | with_reducible refine br_ndec (fun _h => ?_) (fun _h => ?_)) <;> (first | (exfalso; omega) | simp only [decide_eq_false _h] | simp only [decide_eq_true _h] | skip)) | ((first | with_reducible refine br_not (fun _h => ?_) (fun _h => ?_) | with_reducible refine br_var (fun _h => ?_) (fun _h => ?_)) <;> (try simp only [_h])) | fail)
/-- ablaut/ablautref21.form: 1 parameters, 0 captured -/
def s75 : SC := .seq (.reg [⟨(some 2), .mv (.c (.int .i64 0)), none⟩])
  (.seq (.seq (.reg [⟨(some 6), .mv (.t 0), none⟩,
       ⟨(some 7), .lenL (.t 6), none⟩,
       ⟨(some 8), .bin .gtr (.t 7) (.c (.int .i64 200)), none⟩])
    (.cond (.t 8) (.seq (.reg [⟨(some 2), .mv (.c (.int .i64 3)), none⟩])
      (.ret)) (.skip)))
   (.seq (.seq (.reg [⟨(some 3), .mv (.c (.int .i64 0)), none⟩])
     (.block 0 (.loop (.seq (.seq (.reg [⟨(some 9), .mv (.t 3), none⟩,
            ⟨(some 10), .mv (.t 0), none⟩,
            ⟨(some 11), .lenL (.t 10), none⟩,
            ⟨(some 12), .bin .lss (.t 9) (.t 11), none⟩])
         (.cond (.t 12) (.skip) (.exit 0)))
        (.seq (.block 1 (.seq (.reg [⟨(some 15), .mv (.t 0), none⟩,
              ⟨(some 16), .mv (.t 3), none⟩,
              ⟨(some 17), .iaddr 3 (.t 15) (.t 16), none⟩,
              ⟨(some 18), .faddr 0 (.t 17), none⟩,
              ⟨(some 19), .load none (.t 18), none⟩,
              ⟨(some 20), .lenL (.t 19), none⟩,
              ⟨(some 21), .bin .gtr (.t 20) (.c (.int .i64 16)), none⟩])
           (.cond (.t 21) (.seq (.reg [⟨(some 2), .mv (.c (.int .i64 3)), none⟩])
             (.ret)) (.skip))))
         (.reg [⟨(some 13), .mv (.t 3), none⟩,
            ⟨(some 14), .bin .add (.t 13) (.c (.int .i64 1)), none⟩,
            ⟨(some 3), .mv (.t 14), none⟩]))))))
    (.seq (.seq (.reg [⟨(some 4), .mv (.c (.int .i64 0)), none⟩])
      (.block 2 (.loop (.seq (.seq (.reg [⟨(some 22), .mv (.t 4), none⟩,
             ⟨(some 23), .mv (.t 0), none⟩,
             ⟨(some 24), .lenL (.t 23), none⟩,
             ⟨(some 25), .bin .lss (.t 22) (.t 24), none⟩])
          (.cond (.t 25) (.skip) (.exit 2)))
         (.seq (.block 3 (.seq (.reg [⟨(some 28), .mv (.t 0), none⟩,
               ⟨(some 29), .mv (.t 4), none⟩,
               ⟨(some 30), .iaddr 3 (.t 28) (.t 29), none⟩,
               ⟨(some 31), .load (some 3) (.t 30), none⟩,
               ⟨(some 5), .alloc 34 3 [(.slice none 0 0), (.int .i64 0), (.string ⟨#[]⟩)], none⟩,
               ⟨none, .store 3 (.t 5) (.t 31), none⟩])
            (.seq (.reg [⟨(some 32), .faddr 0 (.t 5), none⟩,
                ⟨(some 33), .load none (.t 32), none⟩,
                ⟨(some 34), .call (.f 57) [(.t 33)], none⟩,
                ⟨(some 35), .un .not (.t 34), none⟩,
                ⟨(some 36), .mv (.t 35), none⟩,
                ⟨(some 37), .faddr 1 (.t 5), some (36, false)⟩,
                ⟨(some 38), .load none (.t 37), some (36, false)⟩,
                ⟨(some 39), .bin .lss (.t 38) (.c (.int .i64 (-2))), some (36, false)⟩,
                ⟨(some 40), .pick (.t 36) (.c (.bool true)) (.t 39), none⟩,
                ⟨(some 41), .mv (.t 40), none⟩,
                ⟨(some 42), .faddr 1 (.t 5), some (41, false)⟩,
                ⟨(some 43), .load none (.t 42), some (41, false)⟩,
                ⟨(some 44), .mv (.t 0), some (41, false)⟩,
                ⟨(some 45), .lenL (.t 44), some (41, false)⟩,
                ⟨(some 46), .bin .geq (.t 43) (.t 45), some (41, false)⟩,
                ⟨(some 47), .pick (.t 41) (.c (.bool true)) (.t 46), none⟩,
                ⟨(some 48), .mv (.t 47), none⟩,
                ⟨(some 49), .faddr 1 (.t 5), some (48, false)⟩,
                ⟨(some 50), .load none (.t 49), some (48, false)⟩,
                ⟨(some 51), .bin .eql (.t 50) (.c (.int .i64 (-2))), some (48, false)⟩,
                ⟨(some 52), .mv (.t 51), some (48, false)⟩,
                ⟨(some 53), .faddr 2 (.t 5), some (52, true)⟩,
                ⟨(some 54), .load none (.t 53), some (52, true)⟩,
                ⟨(some 55), .bin .neq (.t 54) (.c (.string ⟨#[]⟩)), some (52, true)⟩,
                ⟨(some 56), .pick (.t 52) (.t 55) (.c (.bool false)), some (48, false)⟩,
                ⟨(some 57), .pick (.t 48) (.c (.bool true)) (.t 56), none⟩,
                ⟨(some 58), .mv (.t 57), none⟩,
                ⟨(some 59), .faddr 1 (.t 5), some (58, false)⟩,
                ⟨(some 60), .load none (.t 59), some (58, false)⟩,
                ⟨(some 61), .bin .gtr (.t 60) (.c (.int .i64 (-2))), some (58, false)⟩,
                ⟨(some 62), .mv (.t 61), some (58, false)⟩,
                ⟨(some 63), .faddr 2 (.t 5), some (62, true)⟩,
                ⟨(some 64), .load none (.t 63), some (62, true)⟩,
                ⟨(some 65), .call (.f 74) [(.t 64)], some (62, true)⟩,
                ⟨(some 66), .un .not (.t 65), some (62, true)⟩,
                ⟨(some 67), .pick (.t 62) (.t 66) (.c (.bool false)), some (58, false)⟩,
                ⟨(some 68), .pick (.t 58) (.c (.bool true)) (.t 67), none⟩])
             (.cond (.t 68) (.seq (.reg [⟨(some 2), .mv (.c (.int .i64 1)), none⟩])
               (.ret)) (.skip)))))
          (.reg [⟨(some 26), .mv (.t 4), none⟩,
             ⟨(some 27), .bin .add (.t 26) (.c (.int .i64 1)), none⟩,
             ⟨(some 4), .mv (.t 27), none⟩]))))))
     (.seq (.reg [⟨(some 2), .mv (.c (.int .i64 0)), none⟩])
      (.ret)))))
theorem s75_ok : lookF Try.prog 75 = some (s75, 69, [.tmp 2]) := by kernel_rfl
set_option maxHeartbeats 1000000 in
theorem form_ok (l : List Hung) (hs : SmH l) : Fn P 75 [sl l] (intA (formE l)) := by
  by_cases hL2 : 200 < l.length
  · rw [formE, if_pos (.inl hL2)]
    (refine fn_look s75_ok (by simp) (by intro k; simp only [go_sem, Nat.reduceEqDiff, ↓reduceIte, reduceCtorEq, Nat.reduceAdd, Nat.reduceMul, Int.reduceToNat, List.reduceReplicate, Nat.reduceLeDiff, Nat.reduceLT, Int.reduceLT, Int.reduceLE, Int.reduceEq]) fun S hS => cwp_sound _ _ _ _ ?_; simp (disch := omega) only [s75, go_sem, Nat.reduceEqDiff, ↓reduceIte, reduceCtorEq, Nat.reduceAdd, Nat.reduceMul, Int.reduceToNat, List.reduceReplicate, Nat.reduceLeDiff, Nat.reduceLT, Int.reduceLT, Int.reduceLE, Int.reduceEq])
    repeat' (first | (with_reducible refine in_seq ?_) | (with_reducible refine in_reg ?_) | (with_reducible refine in_block ?_) | (with_reducible refine in_cond ?_) | (with_reducible refine in_ret ?_) | (with_reducible refine in_skip ?_) | (simp (disch := omega) only [go_sem, Nat.reduceEqDiff, ↓reduceIte, reduceCtorEq, Nat.reduceAdd, Nat.reduceMul, Int.reduceToNat, List.reduceReplicate, Nat.reduceLeDiff, Nat.reduceLT, Int.reduceLT, Int.reduceLE, Int.reduceEq]) | (with_reducible refine giv_intro fun _h => ?_) | (with_reducible refine alt_intro ?_ (fun _h => ?_)) | ((first | with_reducible refine br_dec (fun _h => ?_) (fun _h => ?_) | with_reducible refine br_ndec (fun _h => ?_) (fun _h => ?_)) <;> (first | (exfalso; omega) | simp only [decide_eq_false _h] | simp only [decide_eq_true _h] | skip)) | ((first | with_reducible refine br_not (fun _h => ?_) (fun _h => ?_) | with_reducible refine br_var (fun _h => ?_) (fun _h => ?_)) <;> (try simp only [_h])) | fail)
  · (refine fn_look s75_ok (by simp) (by intro k; simp only [go_sem, Nat.reduceEqDiff, ↓reduceIte, reduceCtorEq, Nat.reduceAdd, Nat.reduceMul, Int.reduceToNat, List.reduceReplicate, Nat.reduceLeDiff, Nat.reduceLT, Int.reduceLT, Int.reduceLE, Int.reduceEq]) fun S hS => cwp_sound _ _ _ _ ?_; simp (disch := omega) only [s75, go_sem, Nat.reduceEqDiff, ↓reduceIte, reduceCtorEq, Nat.reduceAdd, Nat.reduceMul, Int.reduceToNat, List.reduceReplicate, Nat.reduceLeDiff, Nat.reduceLT, Int.reduceLT, Int.reduceLE, Int.reduceEq])
    repeat' (first | (with_reducible refine in_seq ?_) | (with_reducible refine in_reg ?_) | (with_reducible refine in_block ?_) | (with_reducible refine in_cond ?_) | (with_reducible refine in_ret ?_) | (with_reducible refine in_skip ?_) | (simp (disch := omega) only [go_sem, Nat.reduceEqDiff, ↓reduceIte, reduceCtorEq, Nat.reduceAdd, Nat.reduceMul, Int.reduceToNat, List.reduceReplicate, Nat.reduceLeDiff, Nat.reduceLT, Int.reduceLT, Int.reduceLE, Int.reduceEq]) | (with_reducible refine giv_intro fun _h => ?_) | (with_reducible refine alt_intro ?_ (fun _h => ?_)) | ((first | with_reducible refine br_dec (fun _h => ?_) (fun _h => ?_) | with_reducible refine br_ndec (fun _h => ?_) (fun _h => ?_)) <;> (first | (exfalso; omega) | simp only [decide_eq_false _h] | simp only [decide_eq_true _h] | skip)) | ((first | with_reducible refine br_not (fun _h => ?_) (fun _h => ?_) | with_reducible refine br_var (fun _h => ?_) (fun _h => ?_)) <;> (try simp only [_h])) | fail)
    (refine loopC hS [0] (by simp only [go_sem, Nat.reduceEqDiff, ↓reduceIte, reduceCtorEq, Nat.reduceAdd, Nat.reduceMul, Int.reduceToNat, List.reduceReplicate, Nat.reduceLeDiff, Nat.reduceLT, Int.reduceLT, Int.reduceLE, Int.reduceEq]; try rfl) (fun (i : Nat) => [(3, intA i)]) (fun (i : Nat) => []) (fun (i : Nat) => i ≤ l.length ∧ (l.any fun h => decide (16 < h.1.length)) = (l.drop i).any fun h => decide (16 < h.1.length)) (fun (i : Nat) => l.length - i) (0) ?h02 ?hn2 ?rd2; case hn2 => (intro s; first | rfl | (rcases s with ⟨_, _⟩; rfl) | (rcases s with ⟨_, _, _⟩; rfl) | (rcases s with ⟨_, _, _, _⟩; rfl) | (rcases s with ⟨_, _, _, _, _⟩; rfl)))
    · simp (disch := omega) only [go_sem, Nat.reduceEqDiff, ↓reduceIte, reduceCtorEq, Nat.reduceAdd, Nat.reduceMul, Int.reduceToNat, List.reduceReplicate, Nat.reduceLeDiff, Nat.reduceLT, Int.reduceLT, Int.reduceLE, Int.reduceEq]; simp
    rintro i ⟨hi, hI⟩
    replace hi : i ≤ l.length := hi
    replace hI : (l.any fun h => decide (16 < h.1.length)) = (l.drop i).any fun h => decide (16 < h.1.length) := hI
    by_cases hil : i < l.length
    · have hst := any_step hil hI
      repeat' (first | (with_reducible refine in_seq ?_) | (with_reducible refine in_reg ?_) | (with_reducible refine in_block ?_) | (with_reducible refine in_cond ?_) | (with_reducible refine in_ret ?_) | (with_reducible refine in_skip ?_) | (simp (disch := omega) only [go_sem, Nat.reduceEqDiff, ↓reduceIte, reduceCtorEq, Nat.reduceAdd, Nat.reduceMul, Int.reduceToNat, List.reduceReplicate, Nat.reduceLeDiff, Nat.reduceLT, Int.reduceLT, Int.reduceLE, Int.reduceEq]) | (with_reducible refine giv_intro fun _h => ?_) | (with_reducible refine alt_intro ?_ (fun _h => ?_)) | ((first | with_reducible refine br_dec (fun _h => ?_) (fun _h => ?_) | with_reducible refine br_ndec (fun _h => ?_) (fun _h => ?_)) <;> (first | (exfalso; omega) | simp only [decide_eq_false _h] | simp only [decide_eq_true _h] | skip)) | ((first | with_reducible refine br_not (fun _h => ?_) (fun _h => ?_) | with_reducible refine br_var (fun _h => ?_) (fun _h => ?_)) <;> (try simp only [_h])) | fail)
      · rw [formE, if_pos (.inr (by rw [hst, decide_eq_true (by omega)]; rfl))]
      · exact ⟨i + 1, ⟨by omega, by omega, by rw [hst, decide_eq_false (by omega)]; rfl⟩, by omega⟩
    · rw [List.drop_eq_nil_of_le (by omega)] at hI
      rw [formE, if_neg (by rw [hI]; simp; omega)]
      repeat' (first | (with_reducible refine in_seq ?_) | (with_reducible refine in_reg ?_) | (with_reducible refine in_block ?_) | (with_reducible refine in_cond ?_) | (with_reducible refine in_ret ?_) | (with_reducible refine in_skip ?_) | (simp (disch := omega) only [go_sem, Nat.reduceEqDiff, ↓reduceIte, reduceCtorEq, Nat.reduceAdd, Nat.reduceMul, Int.reduceToNat, List.reduceReplicate, Nat.reduceLeDiff, Nat.reduceLT, Int.reduceLT, Int.reduceLE, Int.reduceEq]) | (with_reducible refine giv_intro fun _h => ?_) | (with_reducible refine alt_intro ?_ (fun _h => ?_)) | ((first | with_reducible refine br_dec (fun _h => ?_) (fun _h => ?_) | with_reducible refine br_ndec (fun _h => ?_) (fun _h => ?_)) <;> (first | (exfalso; omega) | simp only [decide_eq_false _h] | simp only [decide_eq_true _h] | skip)) | ((first | with_reducible refine br_not (fun _h => ?_) (fun _h => ?_) | with_reducible refine br_var (fun _h => ?_) (fun _h => ?_)) <;> (try simp only [_h])) | fail)
      (refine loopC hS [0] (by simp only [go_sem, Nat.reduceEqDiff, ↓reduceIte, reduceCtorEq, Nat.reduceAdd, Nat.reduceMul, Int.reduceToNat, List.reduceReplicate, Nat.reduceLeDiff, Nat.reduceLT, Int.reduceLT, Int.reduceLE, Int.reduceEq]; try rfl) (fun (i : Nat) => [(4, intA i)]) (fun (i : Nat) => []) (fun (i : Nat) => i ≤ l.length ∧ l.all (goodH l.length) = (l.drop i).all (goodH l.length)) (fun (i : Nat) => l.length - i) (0) ?h03 ?hn3 ?rd3; case hn3 => (intro s; first | rfl | (rcases s with ⟨_, _⟩; rfl) | (rcases s with ⟨_, _, _⟩; rfl) | (rcases s with ⟨_, _, _, _⟩; rfl) | (rcases s with ⟨_, _, _, _, _⟩; rfl)))
      · simp (disch := omega) only [go_sem, Nat.reduceEqDiff, ↓reduceIte, reduceCtorEq, Nat.reduceAdd, Nat.reduceMul, Int.reduceToNat, List.reduceReplicate, Nat.reduceLeDiff, Nat.reduceLT, Int.reduceLT, Int.reduceLE, Int.reduceEq]; simp
      rintro i ⟨hi, hI⟩
      replace hi : i ≤ l.length := hi
      replace hI : l.all (goodH l.length) = (l.drop i).all (goodH l.length) := hI
      by_cases hil : i < l.length
      · have hst := all_step hil hI
        obtain ⟨hz1, hz2⟩ := hs.2 _ (nth_mem hil)
        have c2 := IsName_ok (nth l i).2.2 (by omega)
        have c3 := IsNames_ok (nth l i).1 hz2.len hz2.sizes
        have hg : goodH l.length (nth l i) = (setB (nth l i).1 && (decide (-2 ≤ (nth l i).2.1) && (decide ((nth l i).2.1 < l.length) && labB (nth l i)))) := rfl
        have bad : goodH l.length (nth l i) = false → (1 : Int) = if l.all (goodH l.length) = true then 0 else 1 := fun h => by rw [hst, h]; rfl
        have good : goodH l.length (nth l i) = true → l.all (goodH l.length) = (l.drop (i + 1)).all (goodH l.length) := fun h => by rw [hst, h, Bool.true_and]
        by_cases h2 : (nth l i).2.1 = -2
        · have hlab : labB (nth l i) = decide ((nth l i).2.2 = ⟨#[]⟩) := by rw [labB, if_pos h2]
          rw [hlab] at hg
          repeat' (first | (with_reducible refine in_seq ?_) | (with_reducible refine in_reg ?_) | (with_reducible refine in_block ?_) | (with_reducible refine in_cond ?_) | (with_reducible refine in_ret ?_) | (with_reducible refine in_skip ?_) | (simp (disch := omega) only [go_sem, Nat.reduceEqDiff, ↓reduceIte, reduceCtorEq, Nat.reduceAdd, Nat.reduceMul, Int.reduceToNat, List.reduceReplicate, Nat.reduceLeDiff, Nat.reduceLT, Int.reduceLT, Int.reduceLE, Int.reduceEq, h2]) | (with_reducible refine giv_intro fun _h => ?_) | (with_reducible refine alt_intro ?_ (fun _h => ?_)) | ((first | with_reducible refine br_dec (fun _h => ?_) (fun _h => ?_) | with_reducible refine br_ndec (fun _h => ?_) (fun _h => ?_)) <;> (first | (exfalso; omega) | simp only [decide_eq_false _h] | simp only [decide_eq_true _h] | skip)) | ((first | with_reducible refine br_not (fun _h => ?_) (fun _h => ?_) | with_reducible refine br_var (fun _h => ?_) (fun _h => ?_)) <;> (try simp only [_h])) | ((with_reducible apply call (c2)); (focus (simp (disch := omega) only [go_sem, Nat.reduceEqDiff, ↓reduceIte, reduceCtorEq, Nat.reduceAdd, Nat.reduceMul, Int.reduceToNat, List.reduceReplicate, Nat.reduceLeDiff, Nat.reduceLT, Int.reduceLT, Int.reduceLE, Int.reduceEq, h2]; (try rfl); done))) | ((with_reducible apply call (c3)); (focus (simp (disch := omega) only [go_sem, Nat.reduceEqDiff, ↓reduceIte, reduceCtorEq, Nat.reduceAdd, Nat.reduceMul, Int.reduceToNat, List.reduceReplicate, Nat.reduceLeDiff, Nat.reduceLT, Int.reduceLT, Int.reduceLE, Int.reduceEq, h2]; (try rfl); done))) | fail)
          all_goals first
            | exact bad (by rw [hg, ← Bool.not_eq_true]; simp only [Bool.and_eq_true, decide_eq_true_eq]; rintro ⟨q1, q2, q3, q4⟩; first | omega | (rw [q1] at _h; cases _h) | exact _h q4 | (rw [q4] at _h; cases _h))
            | exact ⟨i + 1, ⟨by omega, by omega, good (by rw [hg]; simp only [Bool.and_eq_true, decide_eq_true_eq]; exact ⟨by assumption, by omega, by omega, by assumption⟩)⟩, by omega⟩
        · have hlab : labB (nth l i) = nameB (nth l i).2.2 := by rw [labB, if_neg h2]
          rw [hlab] at hg
          repeat' (first | (with_reducible refine in_seq ?_) | (with_reducible refine in_reg ?_) | (with_reducible refine in_block ?_) | (with_reducible refine in_cond ?_) | (with_reducible refine in_ret ?_) | (with_reducible refine in_skip ?_) | (simp (disch := omega) only [go_sem, Nat.reduceEqDiff, ↓reduceIte, reduceCtorEq, Nat.reduceAdd, Nat.reduceMul, Int.reduceToNat, List.reduceReplicate, Nat.reduceLeDiff, Nat.reduceLT, Int.reduceLT, Int.reduceLE, Int.reduceEq, h2]) | (with_reducible refine giv_intro fun _h => ?_) | (with_reducible refine alt_intro ?_ (fun _h => ?_)) | ((first | with_reducible refine br_dec (fun _h => ?_) (fun _h => ?_) | with_reducible refine br_ndec (fun _h => ?_) (fun _h => ?_)) <;> (first | (exfalso; omega) | simp only [decide_eq_false _h] | simp only [decide_eq_true _h] | skip)) | ((first | with_reducible refine br_not (fun _h => ?_) (fun _h => ?_) | with_reducible refine br_var (fun _h => ?_) (fun _h => ?_)) <;> (try simp only [_h])) | ((with_reducible apply call (c2)); (focus (simp (disch := omega) only [go_sem, Nat.reduceEqDiff, ↓reduceIte, reduceCtorEq, Nat.reduceAdd, Nat.reduceMul, Int.reduceToNat, List.reduceReplicate, Nat.reduceLeDiff, Nat.reduceLT, Int.reduceLT, Int.reduceLE, Int.reduceEq, h2]; (try rfl); done))) | ((with_reducible apply call (c3)); (focus (simp (disch := omega) only [go_sem, Nat.reduceEqDiff, ↓reduceIte, reduceCtorEq, Nat.reduceAdd, Nat.reduceMul, Int.reduceToNat, List.reduceReplicate, Nat.reduceLeDiff, Nat.reduceLT, Int.reduceLT, Int.reduceLE, Int.reduceEq, h2]; (try rfl); done))) | fail)
          all_goals first
            | exact bad (by rw [hg, ← Bool.not_eq_true]; simp only [Bool.and_eq_true, decide_eq_true_eq]; rintro ⟨q1, q2, q3, q4⟩; first | omega | (rw [q1] at _h; cases _h) | exact _h q4 | (rw [q4] at _h; cases _h))
            | exact ⟨i + 1, ⟨by omega, by omega, good (by rw [hg]; simp only [Bool.and_eq_true, decide_eq_true_eq]; exact ⟨by assumption, by omega, by omega, by assumption⟩)⟩, by omega⟩
      · rw [List.drop_eq_nil_of_le (by omega)] at hI
        rw [hI]
        repeat' (first | (with_reducible refine in_seq ?_) | (with_reducible refine in_reg ?_) | (with_reducible refine in_block ?_) | (with_reducible refine in_cond ?_) | (with_reducible refine in_ret ?_) | (with_reducible refine in_skip ?_) | (simp (disch := omega) only [go_sem, Nat.reduceEqDiff, ↓reduceIte, reduceCtorEq, Nat.reduceAdd, Nat.reduceMul, Int.reduceToNat, List.reduceReplicate, Nat.reduceLeDiff, Nat.reduceLT, Int.reduceLT, Int.reduceLE, Int.reduceEq]) | (with_reducible refine giv_intro fun _h => ?_) | (with_reducible refine alt_intro ?_ (fun _h => ?_)) | ((first | with_reducible refine br_dec (fun _h => ?_) (fun _h => ?_) | with_reducible refine br_ndec (fun _h => ?_) (fun _h => ?_)) <;> (first | (exfalso; omega) | simp only [decide_eq_false _h] | simp only [decide_eq_true _h] | skip)) | ((first | with_reducible refine br_not (fun _h => ?_) (fun _h => ?_) | with_reducible refine br_var (fun _h => ?_) (fun _h => ?_)) <;> (try simp only [_h])) | fail)

theorem hd_nth {l : List Hung} {x : Int} (h : 0 ≤ x) : hd l x = (nth l x.toNat).2.1 := by rw [hd, if_neg (by omega)]
/-- ablaut/depend.rings: 1 parameters, 0 captured -/
def s51 : SC := .seq (.reg [⟨(some 2), .mv (.c (.bool false)), none⟩])
  (.scope (.seq (.skip)
    (.seq (.seq (.reg [⟨(some 5), .mv (.t 0), none⟩,
         ⟨(some 6), .lenL (.t 5), none⟩,
         ⟨(some 7), .mv (.c (.int .i64 0)), none⟩])
      (.block 0 (.loop (.seq (.reg [⟨(some 8), .bin .lss (.t 7) (.t 6), none⟩])
         (.seq (.cond (.t 8) (.skip) (.exit 0))
          (.seq (.block 1 (.seq (.reg [⟨(some 9), .mv (.t 7), none⟩,
                ⟨(some 3), .mv (.t 9), none⟩])
             (.seq (.reg [⟨(some 10), .mv (.t 3), none⟩,
                 ⟨(some 4), .mv (.t 10), none⟩])
              (.seq (.reg [⟨(some 11), .mv (.t 0), none⟩,
                  ⟨(some 12), .lenL (.t 11), none⟩,
                  ⟨(some 13), .mv (.c (.int .i64 0)), none⟩])
               (.block 2 (.loop (.seq (.reg [⟨(some 14), .bin .lss (.t 13) (.t 12), none⟩])
                  (.seq (.cond (.t 14) (.skip) (.exit 2))
                   (.seq (.block 3 (.seq (.seq (.reg [⟨(some 15), .mv (.t 0), none⟩,
                          ⟨(some 16), .mv (.t 4), none⟩,
                          ⟨(some 17), .iaddr 3 (.t 15) (.t 16), none⟩,
                          ⟨(some 18), .faddr 1 (.t 17), none⟩,
                          ⟨(some 19), .load none (.t 18), none⟩,
                          ⟨(some 4), .mv (.t 19), none⟩])
                       (.seq (.reg [⟨(some 20), .mv (.t 4), none⟩,
                           ⟨(some 21), .bin .lss (.t 20) (.c (.int .i64 0)), none⟩])
                        (.cond (.t 21) (.exit 1) (.skip))))
                      (.seq (.reg [⟨(some 22), .mv (.t 4), none⟩,
                          ⟨(some 23), .mv (.t 3), none⟩,
                          ⟨(some 24), .bin .eql (.t 22) (.t 23), none⟩])
                       (.cond (.t 24) (.seq (.reg [⟨(some 2), .mv (.c (.bool true)), none⟩])
                         (.ret)) (.skip)))))
                    (.reg [⟨(some 25), .bin .add (.t 13) (.c (.int .i64 1)), none⟩,
                       ⟨(some 13), .mv (.t 25), none⟩]))))))))))
           (.reg [⟨(some 26), .bin .add (.t 7) (.c (.int .i64 1)), none⟩,
              ⟨(some 7), .mv (.t 26), none⟩])))))))
     (.seq (.reg [⟨(some 2), .mv (.c (.bool false)), none⟩])
      (.ret)))))
theorem s51_ok : lookF Try.prog 51 = some (s51, 27, [.tmp 2]) := by kernel_rfl
set_option maxHeartbeats 1000000 in
theorem rings_ok (l : List Hung) (hl : Hds l) : Fn P 51 [sl l] (boolA (ringsB l)) := by
  (refine fn_look s51_ok (by simp) (by intro k; simp only [go_sem, Nat.reduceEqDiff, ↓reduceIte, reduceCtorEq, Nat.reduceAdd, Nat.reduceMul, Int.reduceToNat, List.reduceReplicate, Nat.reduceLeDiff, Nat.reduceLT, Int.reduceLT, Int.reduceLE, Int.reduceEq]) fun S hS => cwp_sound _ _ _ _ ?_; simp (disch := omega) only [s51, go_sem, Nat.reduceEqDiff, ↓reduceIte, reduceCtorEq, Nat.reduceAdd, Nat.reduceMul, Int.reduceToNat, List.reduceReplicate, Nat.reduceLeDiff, Nat.reduceLT, Int.reduceLT, Int.reduceLE, Int.reduceEq])
  repeat' (first | (with_reducible refine in_seq ?_) | (with_reducible refine in_reg ?_) | (with_reducible refine in_block ?_) | (with_reducible refine in_cond ?_) | (with_reducible refine in_ret ?_) | (with_reducible refine in_skip ?_) | (simp (disch := omega) only [go_sem, Nat.reduceEqDiff, ↓reduceIte, reduceCtorEq, Nat.reduceAdd, Nat.reduceMul, Int.reduceToNat, List.reduceReplicate, Nat.reduceLeDiff, Nat.reduceLT, Int.reduceLT, Int.reduceLE, Int.reduceEq]) | (with_reducible refine giv_intro fun _h => ?_) | (with_reducible refine alt_intro ?_ (fun _h => ?_)) | ((first | with_reducible refine br_dec (fun _h => ?_) (fun _h => ?_) | with_reducible refine br_ndec (fun _h => ?_) (fun _h => ?_)) <;> (first | (exfalso; omega) | simp only [decide_eq_false _h] | simp only [decide_eq_true _h] | skip)) | ((first | with_reducible refine br_not (fun _h => ?_) (fun _h => ?_) | with_reducible refine br_var (fun _h => ?_) (fun _h => ?_)) <;> (try simp only [_h])) | fail)
  (refine loopC hS [0, 6] (by simp only [go_sem, Nat.reduceEqDiff, ↓reduceIte, reduceCtorEq, Nat.reduceAdd, Nat.reduceMul, Int.reduceToNat, List.reduceReplicate, Nat.reduceLeDiff, Nat.reduceLT, Int.reduceLT, Int.reduceLE, Int.reduceEq]; try rfl) (fun (i : Nat) => [(7, intA i)]) (fun (i : Nat) => []) (fun (i : Nat) => i ≤ l.length ∧ ∀ j, j < i → hangsF l j l.length (hd l j) = false) (fun (i : Nat) => l.length - i) (0) ?h04 ?hn4 ?rd4; case hn4 => (intro s; first | rfl | (rcases s with ⟨_, _⟩; rfl) | (rcases s with ⟨_, _, _⟩; rfl) | (rcases s with ⟨_, _, _, _⟩; rfl) | (rcases s with ⟨_, _, _, _, _⟩; rfl)))
  · simp (disch := omega) only [go_sem, Nat.reduceEqDiff, ↓reduceIte, reduceCtorEq, Nat.reduceAdd, Nat.reduceMul, Int.reduceToNat, List.reduceReplicate, Nat.reduceLeDiff, Nat.reduceLT, Int.reduceLT, Int.reduceLE, Int.reduceEq]; simp
  rintro i ⟨hi, hI⟩
  replace hi : i ≤ l.length := hi
  replace hI : ∀ j, j < i → hangsF l j l.length (hd l j) = false := hI
  by_cases hil : i < l.length
  · repeat' (first | (with_reducible refine in_seq ?_) | (with_reducible refine in_reg ?_) | (with_reducible refine in_block ?_) | (with_reducible refine in_cond ?_) | (with_reducible refine in_ret ?_) | (with_reducible refine in_skip ?_) | (simp (disch := omega) only [go_sem, Nat.reduceEqDiff, ↓reduceIte, reduceCtorEq, Nat.reduceAdd, Nat.reduceMul, Int.reduceToNat, List.reduceReplicate, Nat.reduceLeDiff, Nat.reduceLT, Int.reduceLT, Int.reduceLE, Int.reduceEq]) | (with_reducible refine giv_intro fun _h => ?_) | (with_reducible refine alt_intro ?_ (fun _h => ?_)) | ((first | with_reducible refine br_dec (fun _h => ?_) (fun _h => ?_) | with_reducible refine br_ndec (fun _h => ?_) (fun _h => ?_)) <;> (first | (exfalso; omega) | simp only [decide_eq_false _h] | simp only [decide_eq_true _h] | skip)) | ((first | with_reducible refine br_not (fun _h => ?_) (fun _h => ?_) | with_reducible refine br_var (fun _h => ?_) (fun _h => ?_)) <;> (try simp only [_h])) | fail)
    (refine loopC hS [0, 3, 6, 7, 12] (by simp only [go_sem, Nat.reduceEqDiff, ↓reduceIte, reduceCtorEq, Nat.reduceAdd, Nat.reduceMul, Int.reduceToNat, List.reduceReplicate, Nat.reduceLeDiff, Nat.reduceLT, Int.reduceLT, Int.reduceLE, Int.reduceEq]; try rfl) (fun (⟨k, at'⟩ : Nat × Int) => [(4, intA at'), (13, intA k)]) (fun (⟨k, at'⟩ : Nat × Int) => []) (fun (⟨k, at'⟩ : Nat × Int) => k ≤ l.length ∧ 0 ≤ at' ∧ at' < l.length ∧ hangsF l i l.length (hd l i) = hangsF l i (l.length - k) (hd l at')) (fun (⟨k, at'⟩ : Nat × Int) => l.length - k) ((0, (i : Int))) ?h05 ?hn5 ?rd5; case hn5 => (intro s; first | rfl | (rcases s with ⟨_, _⟩; rfl) | (rcases s with ⟨_, _, _⟩; rfl) | (rcases s with ⟨_, _, _, _⟩; rfl) | (rcases s with ⟨_, _, _, _, _⟩; rfl)))
    · simp (disch := omega) only [go_sem, Nat.reduceEqDiff, ↓reduceIte, reduceCtorEq, Nat.reduceAdd, Nat.reduceMul, Int.reduceToNat, List.reduceReplicate, Nat.reduceLeDiff, Nat.reduceLT, Int.reduceLT, Int.reduceLE, Int.reduceEq]; simp
      omega
    rintro ⟨k, at'⟩ ⟨hk, ha0, ha1, hK⟩
    replace hk : k ≤ l.length := hk
    replace ha0 : 0 ≤ at' := ha0
    replace ha1 : at' < l.length := ha1
    replace hK : hangsF l i l.length (hd l i) = hangsF l i (l.length - k) (hd l at') := hK
    by_cases hkl : k < l.length
    · rw [show l.length - k = (l.length - (k + 1)) + 1 by omega, hangsF] at hK
      have hh := hd_nth (l := l) ha0
      have hn := hl at'.toNat (by omega)
      rw [← hh] at hn
      generalize hd l at' = a at *
      repeat' (first | (with_reducible refine in_seq ?_) | (with_reducible refine in_reg ?_) | (with_reducible refine in_block ?_) | (with_reducible refine in_cond ?_) | (with_reducible refine in_ret ?_) | (with_reducible refine in_skip ?_) | (simp (disch := omega) only [go_sem, Nat.reduceEqDiff, ↓reduceIte, reduceCtorEq, Nat.reduceAdd, Nat.reduceMul, Int.reduceToNat, List.reduceReplicate, Nat.reduceLeDiff, Nat.reduceLT, Int.reduceLT, Int.reduceLE, Int.reduceEq, ← hh]) | (with_reducible refine giv_intro fun _h => ?_) | (with_reducible refine alt_intro ?_ (fun _h => ?_)) | ((first | with_reducible refine br_dec (fun _h => ?_) (fun _h => ?_) | with_reducible refine br_ndec (fun _h => ?_) (fun _h => ?_)) <;> (first | (exfalso; omega) | simp only [decide_eq_false _h] | simp only [decide_eq_true _h] | skip)) | ((first | with_reducible refine br_not (fun _h => ?_) (fun _h => ?_) | with_reducible refine br_var (fun _h => ?_) (fun _h => ?_)) <;> (try simp only [_h])) | fail)
      · rw [if_pos _h] at hK
        exact ⟨i + 1, ⟨by omega, by omega, allN_step hI hK⟩, by omega⟩
      · rw [if_neg (by omega), if_pos _h] at hK
        refine (List.any_eq_true.2 ⟨i, List.mem_range.2 hil, hK⟩ : ringsB l = true).symm
      · rw [if_neg (by omega), if_neg _h] at hK
        exact ⟨(k + 1, a), ⟨by omega, by omega, by omega, by omega, hK⟩, rfl, by omega⟩
    · rw [show l.length - k = 0 by omega, hangsF] at hK
      repeat' (first | (with_reducible refine in_seq ?_) | (with_reducible refine in_reg ?_) | (with_reducible refine in_block ?_) | (with_reducible refine in_cond ?_) | (with_reducible refine in_ret ?_) | (with_reducible refine in_skip ?_) | (simp (disch := omega) only [go_sem, Nat.reduceEqDiff, ↓reduceIte, reduceCtorEq, Nat.reduceAdd, Nat.reduceMul, Int.reduceToNat, List.reduceReplicate, Nat.reduceLeDiff, Nat.reduceLT, Int.reduceLT, Int.reduceLE, Int.reduceEq]) | (with_reducible refine giv_intro fun _h => ?_) | (with_reducible refine alt_intro ?_ (fun _h => ?_)) | ((first | with_reducible refine br_dec (fun _h => ?_) (fun _h => ?_) | with_reducible refine br_ndec (fun _h => ?_) (fun _h => ?_)) <;> (first | (exfalso; omega) | simp only [decide_eq_false _h] | simp only [decide_eq_true _h] | skip)) | ((first | with_reducible refine br_not (fun _h => ?_) (fun _h => ?_) | with_reducible refine br_var (fun _h => ?_) (fun _h => ?_)) <;> (try simp only [_h])) | fail)
      exact ⟨i + 1, ⟨by omega, by omega, allN_step hI hK⟩, by omega⟩
  · repeat' (first | (with_reducible refine in_seq ?_) | (with_reducible refine in_reg ?_) | (with_reducible refine in_block ?_) | (with_reducible refine in_cond ?_) | (with_reducible refine in_ret ?_) | (with_reducible refine in_skip ?_) | (simp (disch := omega) only [go_sem, Nat.reduceEqDiff, ↓reduceIte, reduceCtorEq, Nat.reduceAdd, Nat.reduceMul, Int.reduceToNat, List.reduceReplicate, Nat.reduceLeDiff, Nat.reduceLT, Int.reduceLT, Int.reduceLE, Int.reduceEq]) | (with_reducible refine giv_intro fun _h => ?_) | (with_reducible refine alt_intro ?_ (fun _h => ?_)) | ((first | with_reducible refine br_dec (fun _h => ?_) (fun _h => ?_) | with_reducible refine br_ndec (fun _h => ?_) (fun _h => ?_)) <;> (first | (exfalso; omega) | simp only [decide_eq_false _h] | simp only [decide_eq_true _h] | skip)) | ((first | with_reducible refine br_not (fun _h => ?_) (fun _h => ?_) | with_reducible refine br_var (fun _h => ?_) (fun _h => ?_)) <;> (try simp only [_h])) | fail)
    refine (List.any_eq_false.2 fun j hj => ?_ : ringsB l = false).symm
    rw [hI j (by have := List.mem_range.1 hj; omega)]; simp
/-- ablaut/depend.hangs: 3 parameters, 0 captured -/
def s58 : SC := .seq (.reg [⟨(some 6), .mv (.c (.bool false)), none⟩])
  (.seq (.block 0 (.loop (.seq (.seq (.reg [⟨(some 7), .mv (.t 1), none⟩,
          ⟨(some 8), .bin .geq (.t 7) (.c (.int .i64 0)), none⟩,
          ⟨(some 9), .mv (.t 8), none⟩,
          ⟨(some 10), .mv (.t 1), some (9, true)⟩,
          ⟨(some 11), .mv (.t 2), some (9, true)⟩,
          ⟨(some 12), .bin .neq (.t 10) (.t 11), some (9, true)⟩,
          ⟨(some 13), .pick (.t 9) (.t 12) (.c (.bool false)), none⟩])
       (.cond (.t 13) (.skip) (.exit 0)))
      (.block 1 (.reg [⟨(some 14), .mv (.t 0), none⟩,
          ⟨(some 15), .mv (.t 1), none⟩,
          ⟨(some 16), .iaddr 3 (.t 14) (.t 15), none⟩,
          ⟨(some 17), .faddr 1 (.t 16), none⟩,
          ⟨(some 18), .load none (.t 17), none⟩,
          ⟨(some 1), .mv (.t 18), none⟩])))))
   (.seq (.reg [⟨(some 19), .mv (.t 1), none⟩,
       ⟨(some 20), .mv (.t 2), none⟩,
       ⟨(some 21), .bin .eql (.t 19) (.t 20), none⟩,
       ⟨(some 6), .mv (.t 21), none⟩])
    (.ret)))
theorem s58_ok : lookF Try.prog 58 = some (s58, 22, [.tmp 6]) := by kernel_rfl
/-- What hangs on what, where each chain ends. -/
theorem hangs_ok (l : List Hung) (hl : Hds l) (he : Ends l) (x on : Int) (h0 : -2 ≤ x) (hx : x < l.length) (ho : 0 ≤ on) : Fn P 58 [sl l, intA x, intA on] (boolA (hgB l x on)) := by
  have hiff := hgB_iff hl he hx (on := on)
  (refine fn_look s58_ok (by simp) (by intro k; simp only [go_sem, Nat.reduceEqDiff, ↓reduceIte, reduceCtorEq, Nat.reduceAdd, Nat.reduceMul, Int.reduceToNat, List.reduceReplicate, Nat.reduceLeDiff, Nat.reduceLT, Int.reduceLT, Int.reduceLE, Int.reduceEq]) fun S hS => cwp_sound _ _ _ _ ?_; simp (disch := omega) only [s58, go_sem, Nat.reduceEqDiff, ↓reduceIte, reduceCtorEq, Nat.reduceAdd, Nat.reduceMul, Int.reduceToNat, List.reduceReplicate, Nat.reduceLeDiff, Nat.reduceLT, Int.reduceLT, Int.reduceLE, Int.reduceEq])
  (refine loopC hS [0, 2] (by simp only [go_sem, Nat.reduceEqDiff, ↓reduceIte, reduceCtorEq, Nat.reduceAdd, Nat.reduceMul, Int.reduceToNat, List.reduceReplicate, Nat.reduceLeDiff, Nat.reduceLT, Int.reduceLT, Int.reduceLE, Int.reduceEq]; try rfl) (fun (y : Int) => [(1, intA y)]) (fun (y : Int) => []) (fun (y : Int) => -2 ≤ y ∧ y < l.length ∧ (Hg l x on ↔ Hg l y on)) (fun (y : Int) => far l (l.length + 1) y) (x) ?h06 ?hn6 ?rd6; case hn6 => (intro s; first | rfl | (rcases s with ⟨_, _⟩; rfl) | (rcases s with ⟨_, _, _⟩; rfl) | (rcases s with ⟨_, _, _, _⟩; rfl) | (rcases s with ⟨_, _, _, _, _⟩; rfl)))
  · exact ⟨⟨h0, hx, Iff.rfl⟩, by simp (disch := omega) only [go_sem, Nat.reduceEqDiff, ↓reduceIte, reduceCtorEq, Nat.reduceAdd, Nat.reduceMul, Int.reduceToNat, List.reduceReplicate, Nat.reduceLeDiff, Nat.reduceLT, Int.reduceLT, Int.reduceLE, Int.reduceEq]⟩
  rintro y ⟨hy0, hy1, hI⟩
  replace hy0 : -2 ≤ y := hy0
  replace hy1 : y < l.length := hy1
  replace hI : Hg l x on ↔ Hg l y on := hI
  by_cases hn : 0 ≤ y
  · have hh := hd_nth (l := l) hn
    by_cases hy : y = on
    · have : hgB l x on = true := hiff.2 (hI.2 (hy ▸ hg_self hn))
      rw [this]
      subst hy
      repeat' (first | (with_reducible refine in_seq ?_) | (with_reducible refine in_reg ?_) | (with_reducible refine in_block ?_) | (with_reducible refine in_cond ?_) | (with_reducible refine in_ret ?_) | (with_reducible refine in_skip ?_) | (simp (disch := omega) only [go_sem, Nat.reduceEqDiff, ↓reduceIte, reduceCtorEq, Nat.reduceAdd, Nat.reduceMul, Int.reduceToNat, List.reduceReplicate, Nat.reduceLeDiff, Nat.reduceLT, Int.reduceLT, Int.reduceLE, Int.reduceEq]) | (with_reducible refine giv_intro fun _h => ?_) | (with_reducible refine alt_intro ?_ (fun _h => ?_)) | ((first | with_reducible refine br_dec (fun _h => ?_) (fun _h => ?_) | with_reducible refine br_ndec (fun _h => ?_) (fun _h => ?_)) <;> (first | (exfalso; omega) | simp only [decide_eq_false _h] | simp only [decide_eq_true _h] | skip)) | ((first | with_reducible refine br_not (fun _h => ?_) (fun _h => ?_) | with_reducible refine br_var (fun _h => ?_) (fun _h => ?_)) <;> (try simp only [_h])) | fail)
    · have hlt := far_step hl he hn hy1
      have hlo := hd_lo hl hy1 hy0
      have hlt2 := hd_lt hl hy1
      rw [hg_step hn hy] at hI
      repeat' (first | (with_reducible refine in_seq ?_) | (with_reducible refine in_reg ?_) | (with_reducible refine in_block ?_) | (with_reducible refine in_cond ?_) | (with_reducible refine in_ret ?_) | (with_reducible refine in_skip ?_) | (simp (disch := omega) only [go_sem, Nat.reduceEqDiff, ↓reduceIte, reduceCtorEq, Nat.reduceAdd, Nat.reduceMul, Int.reduceToNat, List.reduceReplicate, Nat.reduceLeDiff, Nat.reduceLT, Int.reduceLT, Int.reduceLE, Int.reduceEq, ← hh]) | (with_reducible refine giv_intro fun _h => ?_) | (with_reducible refine alt_intro ?_ (fun _h => ?_)) | ((first | with_reducible refine br_dec (fun _h => ?_) (fun _h => ?_) | with_reducible refine br_ndec (fun _h => ?_) (fun _h => ?_)) <;> (first | (exfalso; omega) | simp only [decide_eq_false _h] | simp only [decide_eq_true _h] | skip)) | ((first | with_reducible refine br_not (fun _h => ?_) (fun _h => ?_) | with_reducible refine br_var (fun _h => ?_) (fun _h => ?_)) <;> (try simp only [_h])) | fail)
      exact ⟨hd l y, ⟨by omega, by omega, by omega, hI⟩, rfl⟩
  · have : hgB l x on = false := by rw [← Bool.not_eq_true, hiff, hI]; exact hg_neg (by omega)
    rw [this]
    repeat' (first | (with_reducible refine in_seq ?_) | (with_reducible refine in_reg ?_) | (with_reducible refine in_block ?_) | (with_reducible refine in_cond ?_) | (with_reducible refine in_ret ?_) | (with_reducible refine in_skip ?_) | (simp (disch := omega) only [go_sem, Nat.reduceEqDiff, ↓reduceIte, reduceCtorEq, Nat.reduceAdd, Nat.reduceMul, Int.reduceToNat, List.reduceReplicate, Nat.reduceLeDiff, Nat.reduceLT, Int.reduceLT, Int.reduceLE, Int.reduceEq]) | (with_reducible refine giv_intro fun _h => ?_) | (with_reducible refine alt_intro ?_ (fun _h => ?_)) | ((first | with_reducible refine br_dec (fun _h => ?_) (fun _h => ?_) | with_reducible refine br_ndec (fun _h => ?_) (fun _h => ?_)) <;> (first | (exfalso; omega) | simp only [decide_eq_false _h] | simp only [decide_eq_true _h] | skip)) | ((first | with_reducible refine br_not (fun _h => ?_) (fun _h => ?_) | with_reducible refine br_var (fun _h => ?_) (fun _h => ?_)) <;> (try simp only [_h])) | fail)
    exact decide_eq_false (by omega)
/-- ablaut/ablautref21.hangs: 3 parameters, 0 captured -/
def s61 : SC := .seq (.reg [⟨(some 6), .mv (.c (.bool false)), none⟩])
  (.seq (.seq (.reg [⟨(some 7), .mv (.c (.int .i64 0)), none⟩])
    (.block 0 (.loop (.seq (.seq (.reg [⟨(some 8), .mv (.t 1), none⟩,
           ⟨(some 9), .bin .geq (.t 8) (.c (.int .i64 0)), none⟩,
           ⟨(some 10), .mv (.t 9), none⟩,
           ⟨(some 11), .mv (.t 7), some (10, true)⟩,
           ⟨(some 12), .mv (.t 0), some (10, true)⟩,
           ⟨(some 13), .lenL (.t 12), some (10, true)⟩,
           ⟨(some 14), .bin .leq (.t 11) (.t 13), some (10, true)⟩,
           ⟨(some 15), .pick (.t 10) (.t 14) (.c (.bool false)), none⟩])
        (.cond (.t 15) (.skip) (.exit 0)))
       (.seq (.block 1 (.seq (.seq (.reg [⟨(some 18), .mv (.t 1), none⟩,
              ⟨(some 19), .mv (.t 2), none⟩,
              ⟨(some 20), .bin .eql (.t 18) (.t 19), none⟩])
           (.cond (.t 20) (.seq (.reg [⟨(some 6), .mv (.c (.bool true)), none⟩])
             (.ret)) (.skip)))
          (.reg [⟨(some 21), .mv (.t 0), none⟩,
             ⟨(some 22), .mv (.t 1), none⟩,
             ⟨(some 23), .iaddr 3 (.t 21) (.t 22), none⟩,
             ⟨(some 24), .faddr 1 (.t 23), none⟩,
             ⟨(some 25), .load none (.t 24), none⟩,
             ⟨(some 1), .mv (.t 25), none⟩])))
        (.reg [⟨(some 16), .mv (.t 7), none⟩,
           ⟨(some 17), .bin .add (.t 16) (.c (.int .i64 1)), none⟩,
           ⟨(some 7), .mv (.t 17), none⟩]))))))
   (.seq (.reg [⟨(some 6), .mv (.c (.bool false)), none⟩])
    (.ret)))
theorem s61_ok : lookF Try.prog 61 = some (s61, 26, [.tmp 6]) := by kernel_rfl
theorem rHangs_ok (l : List Hung) (hl : Hds l) (hlen : l.length ≤ 100000) (x on : Int) (hx : x < l.length) : Fn P 61 [sl l, intA x, intA on] (boolA (hgB l x on)) := by
  (refine fn_look s61_ok (by simp) (by intro k; simp only [go_sem, Nat.reduceEqDiff, ↓reduceIte, reduceCtorEq, Nat.reduceAdd, Nat.reduceMul, Int.reduceToNat, List.reduceReplicate, Nat.reduceLeDiff, Nat.reduceLT, Int.reduceLT, Int.reduceLE, Int.reduceEq]) fun S hS => cwp_sound _ _ _ _ ?_; simp (disch := omega) only [s61, go_sem, Nat.reduceEqDiff, ↓reduceIte, reduceCtorEq, Nat.reduceAdd, Nat.reduceMul, Int.reduceToNat, List.reduceReplicate, Nat.reduceLeDiff, Nat.reduceLT, Int.reduceLT, Int.reduceLE, Int.reduceEq])
  (refine loopC hS [0, 2] (by simp only [go_sem, Nat.reduceEqDiff, ↓reduceIte, reduceCtorEq, Nat.reduceAdd, Nat.reduceMul, Int.reduceToNat, List.reduceReplicate, Nat.reduceLeDiff, Nat.reduceLT, Int.reduceLT, Int.reduceLE, Int.reduceEq]; try rfl) (fun (⟨k, y⟩ : Nat × Int) => [(1, intA y), (7, intA k)]) (fun (⟨k, y⟩ : Nat × Int) => []) (fun (⟨k, y⟩ : Nat × Int) => k ≤ l.length + 1 ∧ y < l.length ∧ hgB l x on = hangsF l on (l.length + 1 - k) y) (fun (⟨k, y⟩ : Nat × Int) => l.length + 1 - k) ((0, x)) ?h07 ?hn7 ?rd7; case hn7 => (intro s; first | rfl | (rcases s with ⟨_, _⟩; rfl) | (rcases s with ⟨_, _, _⟩; rfl) | (rcases s with ⟨_, _, _, _⟩; rfl) | (rcases s with ⟨_, _, _, _, _⟩; rfl)))
  · simp (disch := omega) only [go_sem, Nat.reduceEqDiff, ↓reduceIte, reduceCtorEq, Nat.reduceAdd, Nat.reduceMul, Int.reduceToNat, List.reduceReplicate, Nat.reduceLeDiff, Nat.reduceLT, Int.reduceLT, Int.reduceLE, Int.reduceEq]; simp
    exact ⟨hx, rfl⟩
  rintro ⟨k, y⟩ ⟨hk, hy, hI⟩
  replace hk : k ≤ l.length + 1 := hk
  replace hy : y < l.length := hy
  replace hI : hgB l x on = hangsF l on (l.length + 1 - k) y := hI
  by_cases hkl : k < l.length + 1
  · rw [show l.length + 1 - k = (l.length + 1 - (k + 1)) + 1 by omega, hangsF] at hI
    by_cases hn : 0 ≤ y
    · have hh := hd_nth (l := l) hn
      have hlt := hd_lt hl hy
      rw [if_neg (by omega)] at hI
      repeat' (first | (with_reducible refine in_seq ?_) | (with_reducible refine in_reg ?_) | (with_reducible refine in_block ?_) | (with_reducible refine in_cond ?_) | (with_reducible refine in_ret ?_) | (with_reducible refine in_skip ?_) | (simp (disch := omega) only [go_sem, Nat.reduceEqDiff, ↓reduceIte, reduceCtorEq, Nat.reduceAdd, Nat.reduceMul, Int.reduceToNat, List.reduceReplicate, Nat.reduceLeDiff, Nat.reduceLT, Int.reduceLT, Int.reduceLE, Int.reduceEq, ← hh]) | (with_reducible refine giv_intro fun _h => ?_) | (with_reducible refine alt_intro ?_ (fun _h => ?_)) | ((first | with_reducible refine br_dec (fun _h => ?_) (fun _h => ?_) | with_reducible refine br_ndec (fun _h => ?_) (fun _h => ?_)) <;> (first | (exfalso; omega) | simp only [decide_eq_false _h] | simp only [decide_eq_true _h] | skip)) | ((first | with_reducible refine br_not (fun _h => ?_) (fun _h => ?_) | with_reducible refine br_var (fun _h => ?_) (fun _h => ?_)) <;> (try simp only [_h])) | fail)
      · rw [if_pos _h] at hI; exact hI.symm
      · rw [if_neg _h] at hI
        exact ⟨(k + 1, hd l y), ⟨by omega, by omega, hlt, hI⟩, rfl, by omega⟩
    · rw [if_pos (by omega)] at hI
      rw [hI]
      repeat' (first | (with_reducible refine in_seq ?_) | (with_reducible refine in_reg ?_) | (with_reducible refine in_block ?_) | (with_reducible refine in_cond ?_) | (with_reducible refine in_ret ?_) | (with_reducible refine in_skip ?_) | (simp (disch := omega) only [go_sem, Nat.reduceEqDiff, ↓reduceIte, reduceCtorEq, Nat.reduceAdd, Nat.reduceMul, Int.reduceToNat, List.reduceReplicate, Nat.reduceLeDiff, Nat.reduceLT, Int.reduceLT, Int.reduceLE, Int.reduceEq]) | (with_reducible refine giv_intro fun _h => ?_) | (with_reducible refine alt_intro ?_ (fun _h => ?_)) | ((first | with_reducible refine br_dec (fun _h => ?_) (fun _h => ?_) | with_reducible refine br_ndec (fun _h => ?_) (fun _h => ?_)) <;> (first | (exfalso; omega) | simp only [decide_eq_false _h] | simp only [decide_eq_true _h] | skip)) | ((first | with_reducible refine br_not (fun _h => ?_) (fun _h => ?_) | with_reducible refine br_var (fun _h => ?_) (fun _h => ?_)) <;> (try simp only [_h])) | fail)
  · rw [show l.length + 1 - k = 0 by omega, hangsF] at hI
    rw [hI]
    by_cases hn : 0 ≤ y
    · repeat' (first | (with_reducible refine in_seq ?_) | (with_reducible refine in_reg ?_) | (with_reducible refine in_block ?_) | (with_reducible refine in_cond ?_) | (with_reducible refine in_ret ?_) | (with_reducible refine in_skip ?_) | (simp (disch := omega) only [go_sem, Nat.reduceEqDiff, ↓reduceIte, reduceCtorEq, Nat.reduceAdd, Nat.reduceMul, Int.reduceToNat, List.reduceReplicate, Nat.reduceLeDiff, Nat.reduceLT, Int.reduceLT, Int.reduceLE, Int.reduceEq]) | (with_reducible refine giv_intro fun _h => ?_) | (with_reducible refine alt_intro ?_ (fun _h => ?_)) | ((first | with_reducible refine br_dec (fun _h => ?_) (fun _h => ?_) | with_reducible refine br_ndec (fun _h => ?_) (fun _h => ?_)) <;> (first | (exfalso; omega) | simp only [decide_eq_false _h] | simp only [decide_eq_true _h] | skip)) | ((first | with_reducible refine br_not (fun _h => ?_) (fun _h => ?_) | with_reducible refine br_var (fun _h => ?_) (fun _h => ?_)) <;> (try simp only [_h])) | fail)
    · repeat' (first | (with_reducible refine in_seq ?_) | (with_reducible refine in_reg ?_) | (with_reducible refine in_block ?_) | (with_reducible refine in_cond ?_) | (with_reducible refine in_ret ?_) | (with_reducible refine in_skip ?_) | (simp (disch := omega) only [go_sem, Nat.reduceEqDiff, ↓reduceIte, reduceCtorEq, Nat.reduceAdd, Nat.reduceMul, Int.reduceToNat, List.reduceReplicate, Nat.reduceLeDiff, Nat.reduceLT, Int.reduceLT, Int.reduceLE, Int.reduceEq]) | (with_reducible refine giv_intro fun _h => ?_) | (with_reducible refine alt_intro ?_ (fun _h => ?_)) | ((first | with_reducible refine br_dec (fun _h => ?_) (fun _h => ?_) | with_reducible refine br_ndec (fun _h => ?_) (fun _h => ?_)) <;> (first | (exfalso; omega) | simp only [decide_eq_false _h] | simp only [decide_eq_true _h] | skip)) | ((first | with_reducible refine br_not (fun _h => ?_) (fun _h => ?_) | with_reducible refine br_var (fun _h => ?_) (fun _h => ?_)) <;> (try simp only [_h])) | fail)
/-- ablaut/ablautref21.hasRing: 1 parameters, 0 captured -/
def s76 : SC := .seq (.reg [⟨(some 2), .mv (.c (.bool false)), none⟩])
  (.seq (.seq (.reg [⟨(some 3), .mv (.c (.int .i64 0)), none⟩])
    (.block 0 (.loop (.seq (.seq (.reg [⟨(some 4), .mv (.t 3), none⟩,
           ⟨(some 5), .mv (.t 0), none⟩,
           ⟨(some 6), .lenL (.t 5), none⟩,
           ⟨(some 7), .bin .lss (.t 4) (.t 6), none⟩])
        (.cond (.t 7) (.skip) (.exit 0)))
       (.seq (.block 1 (.seq (.reg [⟨(some 10), .mv (.t 0), none⟩,
             ⟨(some 11), .mv (.t 3), none⟩,
             ⟨(some 12), .iaddr 3 (.t 10) (.t 11), none⟩,
             ⟨(some 13), .faddr 1 (.t 12), none⟩,
             ⟨(some 14), .load none (.t 13), none⟩,
             ⟨(some 15), .bin .geq (.t 14) (.c (.int .i64 0)), none⟩,
             ⟨(some 16), .mv (.t 15), none⟩,
             ⟨(some 17), .mv (.t 0), some (16, true)⟩,
             ⟨(some 18), .mv (.t 0), some (16, true)⟩,
             ⟨(some 19), .mv (.t 3), some (16, true)⟩,
             ⟨(some 20), .iaddr 3 (.t 18) (.t 19), some (16, true)⟩,
             ⟨(some 21), .faddr 1 (.t 20), some (16, true)⟩,
             ⟨(some 22), .load none (.t 21), some (16, true)⟩,
             ⟨(some 23), .mv (.t 3), some (16, true)⟩,
             ⟨(some 24), .call (.f 61) [(.t 17), (.t 22), (.t 23)], some (16, true)⟩,
             ⟨(some 25), .pick (.t 16) (.t 24) (.c (.bool false)), none⟩])
          (.cond (.t 25) (.seq (.reg [⟨(some 2), .mv (.c (.bool true)), none⟩])
            (.ret)) (.skip))))
        (.reg [⟨(some 8), .mv (.t 3), none⟩,
           ⟨(some 9), .bin .add (.t 8) (.c (.int .i64 1)), none⟩,
           ⟨(some 3), .mv (.t 9), none⟩]))))))
   (.seq (.reg [⟨(some 2), .mv (.c (.bool false)), none⟩])
    (.ret)))
theorem s76_ok : lookF Try.prog 76 = some (s76, 26, [.tmp 2]) := by kernel_rfl
theorem hasRing_ok (l : List Hung) (hl : Hds l) (hlen : l.length ≤ 100000) : Fn P 76 [sl l] (boolA (ringsB l)) := by
  rw [← rings_eq hl]
  (refine fn_look s76_ok (by simp) (by intro k; simp only [go_sem, Nat.reduceEqDiff, ↓reduceIte, reduceCtorEq, Nat.reduceAdd, Nat.reduceMul, Int.reduceToNat, List.reduceReplicate, Nat.reduceLeDiff, Nat.reduceLT, Int.reduceLT, Int.reduceLE, Int.reduceEq]) fun S hS => cwp_sound _ _ _ _ ?_; simp (disch := omega) only [s76, go_sem, Nat.reduceEqDiff, ↓reduceIte, reduceCtorEq, Nat.reduceAdd, Nat.reduceMul, Int.reduceToNat, List.reduceReplicate, Nat.reduceLeDiff, Nat.reduceLT, Int.reduceLT, Int.reduceLE, Int.reduceEq])
  (refine loopC hS [0] (by simp only [go_sem, Nat.reduceEqDiff, ↓reduceIte, reduceCtorEq, Nat.reduceAdd, Nat.reduceMul, Int.reduceToNat, List.reduceReplicate, Nat.reduceLeDiff, Nat.reduceLT, Int.reduceLT, Int.reduceLE, Int.reduceEq]; try rfl) (fun (i : Nat) => [(3, intA i)]) (fun (i : Nat) => []) (fun (i : Nat) => i ≤ l.length ∧ ∀ j, j < i → (decide (0 ≤ hd l j) && hgB l (hd l j) j) = false) (fun (i : Nat) => l.length - i) (0) ?h08 ?hn8 ?rd8; case hn8 => (intro s; first | rfl | (rcases s with ⟨_, _⟩; rfl) | (rcases s with ⟨_, _, _⟩; rfl) | (rcases s with ⟨_, _, _, _⟩; rfl) | (rcases s with ⟨_, _, _, _, _⟩; rfl)))
  · simp (disch := omega) only [go_sem, Nat.reduceEqDiff, ↓reduceIte, reduceCtorEq, Nat.reduceAdd, Nat.reduceMul, Int.reduceToNat, List.reduceReplicate, Nat.reduceLeDiff, Nat.reduceLT, Int.reduceLT, Int.reduceLE, Int.reduceEq]; simp
  rintro i ⟨hi, hI⟩
  replace hi : i ≤ l.length := hi
  replace hI : ∀ j, j < i → (decide (0 ≤ hd l j) && hgB l (hd l j) j) = false := hI
  by_cases hil : i < l.length
  · have hh := hd_nth (l := l) (x := i) (by omega)
    rw [Int.toNat_natCast] at hh
    have hlt := hd_lt hl (x := i) (by omega)
    have c1 := rHangs_ok l hl hlen (hd l i) i hlt
    have bad : (decide (0 ≤ hd l i) && hgB l (hd l i) i) = true → true = ringsR l := fun h => (List.any_eq_true.2 ⟨i, List.mem_range.2 hil, h⟩ : ringsR l = true).symm
    have good : (decide (0 ≤ hd l i) && hgB l (hd l i) i) = false → ∃ s' : Nat, (l.length - s' < l.length - i ∧ s' ≤ l.length ∧ ∀ j, j < s' → (decide (0 ≤ hd l j) && hgB l (hd l j) j) = false) ∧ (i : Int) + 1 = s' := fun h => ⟨i + 1, ⟨by omega, by omega, allN_step hI h⟩, by omega⟩
    repeat' (first | (with_reducible refine in_seq ?_) | (with_reducible refine in_reg ?_) | (with_reducible refine in_block ?_) | (with_reducible refine in_cond ?_) | (with_reducible refine in_ret ?_) | (with_reducible refine in_skip ?_) | (simp (disch := omega) only [go_sem, Nat.reduceEqDiff, ↓reduceIte, reduceCtorEq, Nat.reduceAdd, Nat.reduceMul, Int.reduceToNat, List.reduceReplicate, Nat.reduceLeDiff, Nat.reduceLT, Int.reduceLT, Int.reduceLE, Int.reduceEq, ← hh]) | (with_reducible refine giv_intro fun _h => ?_) | (with_reducible refine alt_intro ?_ (fun _h => ?_)) | ((first | with_reducible refine br_dec (fun _h => ?_) (fun _h => ?_) | with_reducible refine br_ndec (fun _h => ?_) (fun _h => ?_)) <;> (first | (exfalso; omega) | simp only [decide_eq_false _h] | simp only [decide_eq_true _h] | skip)) | ((first | with_reducible refine br_not (fun _h => ?_) (fun _h => ?_) | with_reducible refine br_var (fun _h => ?_) (fun _h => ?_)) <;> (try simp only [_h])) | ((with_reducible apply call (c1)); (focus (simp (disch := omega) only [go_sem, Nat.reduceEqDiff, ↓reduceIte, reduceCtorEq, Nat.reduceAdd, Nat.reduceMul, Int.reduceToNat, List.reduceReplicate, Nat.reduceLeDiff, Nat.reduceLT, Int.reduceLT, Int.reduceLE, Int.reduceEq, ← hh]; (try rfl); done))) | fail)
    · exact bad (by rw [_h, decide_eq_true (by assumption)]; rfl)
    · exact good (by rw [_h, Bool.and_false])
    · exact good (by rw [decide_eq_false _h]; rfl)
  · repeat' (first | (with_reducible refine in_seq ?_) | (with_reducible refine in_reg ?_) | (with_reducible refine in_block ?_) | (with_reducible refine in_cond ?_) | (with_reducible refine in_ret ?_) | (with_reducible refine in_skip ?_) | (simp (disch := omega) only [go_sem, Nat.reduceEqDiff, ↓reduceIte, reduceCtorEq, Nat.reduceAdd, Nat.reduceMul, Int.reduceToNat, List.reduceReplicate, Nat.reduceLeDiff, Nat.reduceLT, Int.reduceLT, Int.reduceLE, Int.reduceEq]) | (with_reducible refine giv_intro fun _h => ?_) | (with_reducible refine alt_intro ?_ (fun _h => ?_)) | ((first | with_reducible refine br_dec (fun _h => ?_) (fun _h => ?_) | with_reducible refine br_ndec (fun _h => ?_) (fun _h => ?_)) <;> (first | (exfalso; omega) | simp only [decide_eq_false _h] | simp only [decide_eq_true _h] | skip)) | ((first | with_reducible refine br_not (fun _h => ?_) (fun _h => ?_) | with_reducible refine br_var (fun _h => ?_) (fun _h => ?_)) <;> (try simp only [_h])) | fail)
    refine (List.any_eq_false.2 fun j hj => ?_ : ringsR l = false).symm
    rw [hI j (by have := List.mem_range.1 hj; omega)]; simp
/-- The error of a frame. -/
def valE (l : List Hung) : Int := if formE l ≠ 0 then formE l else if ringsB l = true then 7 else 0
theorem valE_ok {l : List Hung} (h : valE l = 0) : l.length ≤ 200 ∧ Hds l ∧ Ends l := by
  unfold valE at h
  split at h
  · rename_i h1; exact absurd h h1
  · rename_i h1
    have h2 : formE l = 0 := by omega
    have hl := formE_hds h2
    refine ⟨formE_len h2, hl, (ringsB_ends hl).1 ?_⟩
    split at h
    · cases h
    · rename_i h3; simpa using h3
/-- ablaut/depend.Validate: 1 parameters, 0 captured -/
def s37 : SC := .seq (.reg [⟨(some 2), .mv (.c (.int .i64 0)), none⟩])
  (.seq (.seq (.reg [⟨(some 4), .mv (.t 0), none⟩,
       ⟨(some 5), .call (.f 50) [(.t 4)], none⟩,
       ⟨(some 3), .mv (.t 5), none⟩])
    (.seq (.reg [⟨(some 6), .mv (.t 3), none⟩,
        ⟨(some 7), .bin .neq (.t 6) (.c (.int .i64 0)), none⟩])
     (.cond (.t 7) (.seq (.reg [⟨(some 8), .mv (.t 3), none⟩,
          ⟨(some 2), .mv (.t 8), none⟩])
       (.ret)) (.skip))))
   (.seq (.seq (.reg [⟨(some 9), .mv (.t 0), none⟩,
        ⟨(some 10), .call (.f 51) [(.t 9)], none⟩])
     (.cond (.t 10) (.seq (.reg [⟨(some 2), .mv (.c (.int .i64 7)), none⟩])
       (.ret)) (.skip)))
    (.seq (.reg [⟨(some 2), .mv (.c (.int .i64 0)), none⟩])
     (.ret))))
theorem s37_ok : lookF Try.prog 37 = some (s37, 11, [.tmp 2]) := by kernel_rfl
theorem validate_ok (l : List Hung) (hs : SmH l) : Fn P 37 [sl l] (intA (valE l)) := by
  have c1 := formed_ok l hs
  unfold valE
  by_cases h : formE l = 0
  · rw [if_neg (by omega)]
    rw [h] at c1
    have c2 := rings_ok l (formE_hds h)
    (refine fn_look s37_ok (by simp) (by intro k; simp only [go_sem, Nat.reduceEqDiff, ↓reduceIte, reduceCtorEq, Nat.reduceAdd, Nat.reduceMul, Int.reduceToNat, List.reduceReplicate, Nat.reduceLeDiff, Nat.reduceLT, Int.reduceLT, Int.reduceLE, Int.reduceEq]) fun S hS => cwp_sound _ _ _ _ ?_; simp (disch := omega) only [s37, go_sem, Nat.reduceEqDiff, ↓reduceIte, reduceCtorEq, Nat.reduceAdd, Nat.reduceMul, Int.reduceToNat, List.reduceReplicate, Nat.reduceLeDiff, Nat.reduceLT, Int.reduceLT, Int.reduceLE, Int.reduceEq])
    repeat' (first | (with_reducible refine in_seq ?_) | (with_reducible refine in_reg ?_) | (with_reducible refine in_block ?_) | (with_reducible refine in_cond ?_) | (with_reducible refine in_ret ?_) | (with_reducible refine in_skip ?_) | (simp (disch := omega) only [go_sem, Nat.reduceEqDiff, ↓reduceIte, reduceCtorEq, Nat.reduceAdd, Nat.reduceMul, Int.reduceToNat, List.reduceReplicate, Nat.reduceLeDiff, Nat.reduceLT, Int.reduceLT, Int.reduceLE, Int.reduceEq]) | (with_reducible refine giv_intro fun _h => ?_) | (with_reducible refine alt_intro ?_ (fun _h => ?_)) | ((first | with_reducible refine br_dec (fun _h => ?_) (fun _h => ?_) | with_reducible refine br_ndec (fun _h => ?_) (fun _h => ?_)) <;> (first | (exfalso; omega) | simp only [decide_eq_false _h] | simp only [decide_eq_true _h] | skip)) | ((first | with_reducible refine br_not (fun _h => ?_) (fun _h => ?_) | with_reducible refine br_var (fun _h => ?_) (fun _h => ?_)) <;> (try simp only [_h])) | ((with_reducible apply call (c1)); (focus (simp (disch := omega) only [go_sem, Nat.reduceEqDiff, ↓reduceIte, reduceCtorEq, Nat.reduceAdd, Nat.reduceMul, Int.reduceToNat, List.reduceReplicate, Nat.reduceLeDiff, Nat.reduceLT, Int.reduceLT, Int.reduceLE, Int.reduceEq]; (try rfl); done))) | ((with_reducible apply call (c2)); (focus (simp (disch := omega) only [go_sem, Nat.reduceEqDiff, ↓reduceIte, reduceCtorEq, Nat.reduceAdd, Nat.reduceMul, Int.reduceToNat, List.reduceReplicate, Nat.reduceLeDiff, Nat.reduceLT, Int.reduceLT, Int.reduceLE, Int.reduceEq]; (try rfl); done))) | fail)
    all_goals rfl
  · rw [if_pos h]
    (refine fn_look s37_ok (by simp) (by intro k; simp only [go_sem, Nat.reduceEqDiff, ↓reduceIte, reduceCtorEq, Nat.reduceAdd, Nat.reduceMul, Int.reduceToNat, List.reduceReplicate, Nat.reduceLeDiff, Nat.reduceLT, Int.reduceLT, Int.reduceLE, Int.reduceEq]) fun S hS => cwp_sound _ _ _ _ ?_; simp (disch := omega) only [s37, go_sem, Nat.reduceEqDiff, ↓reduceIte, reduceCtorEq, Nat.reduceAdd, Nat.reduceMul, Int.reduceToNat, List.reduceReplicate, Nat.reduceLeDiff, Nat.reduceLT, Int.reduceLT, Int.reduceLE, Int.reduceEq])
    repeat' (first | (with_reducible refine in_seq ?_) | (with_reducible refine in_reg ?_) | (with_reducible refine in_block ?_) | (with_reducible refine in_cond ?_) | (with_reducible refine in_ret ?_) | (with_reducible refine in_skip ?_) | (simp (disch := omega) only [go_sem, Nat.reduceEqDiff, ↓reduceIte, reduceCtorEq, Nat.reduceAdd, Nat.reduceMul, Int.reduceToNat, List.reduceReplicate, Nat.reduceLeDiff, Nat.reduceLT, Int.reduceLT, Int.reduceLE, Int.reduceEq]) | (with_reducible refine giv_intro fun _h => ?_) | (with_reducible refine alt_intro ?_ (fun _h => ?_)) | ((first | with_reducible refine br_dec (fun _h => ?_) (fun _h => ?_) | with_reducible refine br_ndec (fun _h => ?_) (fun _h => ?_)) <;> (first | (exfalso; omega) | simp only [decide_eq_false _h] | simp only [decide_eq_true _h] | skip)) | ((first | with_reducible refine br_not (fun _h => ?_) (fun _h => ?_) | with_reducible refine br_var (fun _h => ?_) (fun _h => ?_)) <;> (try simp only [_h])) | ((with_reducible apply call (c1)); (focus (simp (disch := omega) only [go_sem, Nat.reduceEqDiff, ↓reduceIte, reduceCtorEq, Nat.reduceAdd, Nat.reduceMul, Int.reduceToNat, List.reduceReplicate, Nat.reduceLeDiff, Nat.reduceLT, Int.reduceLT, Int.reduceLE, Int.reduceEq]; (try rfl); done))) | fail)
/-- ablaut/ablautref21.Validate: 1 parameters, 0 captured -/
def s45 : SC := .seq (.reg [⟨(some 2), .mv (.c (.int .i64 0)), none⟩])
  (.seq (.seq (.reg [⟨(some 4), .mv (.t 0), none⟩,
       ⟨(some 5), .call (.f 75) [(.t 4)], none⟩,
       ⟨(some 3), .mv (.t 5), none⟩])
    (.seq (.reg [⟨(some 6), .mv (.t 3), none⟩,
        ⟨(some 7), .bin .neq (.t 6) (.c (.int .i64 0)), none⟩])
     (.cond (.t 7) (.seq (.reg [⟨(some 8), .mv (.t 3), none⟩,
          ⟨(some 2), .mv (.t 8), none⟩])
       (.ret)) (.skip))))
   (.seq (.seq (.reg [⟨(some 9), .mv (.t 0), none⟩,
        ⟨(some 10), .call (.f 76) [(.t 9)], none⟩])
     (.cond (.t 10) (.seq (.reg [⟨(some 2), .mv (.c (.int .i64 7)), none⟩])
       (.ret)) (.skip)))
    (.seq (.reg [⟨(some 2), .mv (.c (.int .i64 0)), none⟩])
     (.ret))))
theorem s45_ok : lookF Try.prog 45 = some (s45, 11, [.tmp 2]) := by kernel_rfl
theorem rValidate_ok (l : List Hung) (hs : SmH l) : Fn P 45 [sl l] (intA (valE l)) := by
  have c1 := form_ok l hs
  unfold valE
  by_cases h : formE l = 0
  · rw [if_neg (by omega)]
    rw [h] at c1
    have c2 := hasRing_ok l (formE_hds h) hs.1
    (refine fn_look s45_ok (by simp) (by intro k; simp only [go_sem, Nat.reduceEqDiff, ↓reduceIte, reduceCtorEq, Nat.reduceAdd, Nat.reduceMul, Int.reduceToNat, List.reduceReplicate, Nat.reduceLeDiff, Nat.reduceLT, Int.reduceLT, Int.reduceLE, Int.reduceEq]) fun S hS => cwp_sound _ _ _ _ ?_; simp (disch := omega) only [s45, go_sem, Nat.reduceEqDiff, ↓reduceIte, reduceCtorEq, Nat.reduceAdd, Nat.reduceMul, Int.reduceToNat, List.reduceReplicate, Nat.reduceLeDiff, Nat.reduceLT, Int.reduceLT, Int.reduceLE, Int.reduceEq])
    repeat' (first | (with_reducible refine in_seq ?_) | (with_reducible refine in_reg ?_) | (with_reducible refine in_block ?_) | (with_reducible refine in_cond ?_) | (with_reducible refine in_ret ?_) | (with_reducible refine in_skip ?_) | (simp (disch := omega) only [go_sem, Nat.reduceEqDiff, ↓reduceIte, reduceCtorEq, Nat.reduceAdd, Nat.reduceMul, Int.reduceToNat, List.reduceReplicate, Nat.reduceLeDiff, Nat.reduceLT, Int.reduceLT, Int.reduceLE, Int.reduceEq]) | (with_reducible refine giv_intro fun _h => ?_) | (with_reducible refine alt_intro ?_ (fun _h => ?_)) | ((first | with_reducible refine br_dec (fun _h => ?_) (fun _h => ?_) | with_reducible refine br_ndec (fun _h => ?_) (fun _h => ?_)) <;> (first | (exfalso; omega) | simp only [decide_eq_false _h] | simp only [decide_eq_true _h] | skip)) | ((first | with_reducible refine br_not (fun _h => ?_) (fun _h => ?_) | with_reducible refine br_var (fun _h => ?_) (fun _h => ?_)) <;> (try simp only [_h])) | ((with_reducible apply call (c1)); (focus (simp (disch := omega) only [go_sem, Nat.reduceEqDiff, ↓reduceIte, reduceCtorEq, Nat.reduceAdd, Nat.reduceMul, Int.reduceToNat, List.reduceReplicate, Nat.reduceLeDiff, Nat.reduceLT, Int.reduceLT, Int.reduceLE, Int.reduceEq]; (try rfl); done))) | ((with_reducible apply call (c2)); (focus (simp (disch := omega) only [go_sem, Nat.reduceEqDiff, ↓reduceIte, reduceCtorEq, Nat.reduceAdd, Nat.reduceMul, Int.reduceToNat, List.reduceReplicate, Nat.reduceLeDiff, Nat.reduceLT, Int.reduceLT, Int.reduceLE, Int.reduceEq]; (try rfl); done))) | fail)
    all_goals rfl
  · rw [if_pos h]
    (refine fn_look s45_ok (by simp) (by intro k; simp only [go_sem, Nat.reduceEqDiff, ↓reduceIte, reduceCtorEq, Nat.reduceAdd, Nat.reduceMul, Int.reduceToNat, List.reduceReplicate, Nat.reduceLeDiff, Nat.reduceLT, Int.reduceLT, Int.reduceLE, Int.reduceEq]) fun S hS => cwp_sound _ _ _ _ ?_; simp (disch := omega) only [s45, go_sem, Nat.reduceEqDiff, ↓reduceIte, reduceCtorEq, Nat.reduceAdd, Nat.reduceMul, Int.reduceToNat, List.reduceReplicate, Nat.reduceLeDiff, Nat.reduceLT, Int.reduceLT, Int.reduceLE, Int.reduceEq])
    repeat' (first | (with_reducible refine in_seq ?_) | (with_reducible refine in_reg ?_) | (with_reducible refine in_block ?_) | (with_reducible refine in_cond ?_) | (with_reducible refine in_ret ?_) | (with_reducible refine in_skip ?_) | (simp (disch := omega) only [go_sem, Nat.reduceEqDiff, ↓reduceIte, reduceCtorEq, Nat.reduceAdd, Nat.reduceMul, Int.reduceToNat, List.reduceReplicate, Nat.reduceLeDiff, Nat.reduceLT, Int.reduceLT, Int.reduceLE, Int.reduceEq]) | (with_reducible refine giv_intro fun _h => ?_) | (with_reducible refine alt_intro ?_ (fun _h => ?_)) | ((first | with_reducible refine br_dec (fun _h => ?_) (fun _h => ?_) | with_reducible refine br_ndec (fun _h => ?_) (fun _h => ?_)) <;> (first | (exfalso; omega) | simp only [decide_eq_false _h] | simp only [decide_eq_true _h] | skip)) | ((first | with_reducible refine br_not (fun _h => ?_) (fun _h => ?_) | with_reducible refine br_var (fun _h => ?_) (fun _h => ?_)) <;> (try simp only [_h])) | ((with_reducible apply call (c1)); (focus (simp (disch := omega) only [go_sem, Nat.reduceEqDiff, ↓reduceIte, reduceCtorEq, Nat.reduceAdd, Nat.reduceMul, Int.reduceToNat, List.reduceReplicate, Nat.reduceLeDiff, Nat.reduceLT, Int.reduceLT, Int.reduceLE, Int.reduceEq]; (try rfl); done))) | fail)
def longK (h : Hook) : Bool := decide (16 < (max (max (h.1.length : Int) h.2.1.length) h.2.2.1.length))
def goodK (h : Hook) : Bool := setB h.1 && (setB h.2.1 && (setB h.2.2.1 && (decide (-1 ≤ h.2.2.2.1 ∧ h.2.2.2.1 ≤ 1 ∧ 1 ≤ h.2.2.2.2.1 ∧ h.2.2.2.2.1 ≤ 200) && nameB h.2.2.2.2.2)))
def formK (l : List Hook) : Int := if 24 < l.length ∨ l.any longK = true then 3 else if l.all goodK = true then 0 else 1
theorem valA_hook (h : Hook) : valA h = .agg [sl h.1, sl h.2.1, sl h.2.2.1, intA h.2.2.2.1, intA h.2.2.2.2.1, strA h.2.2.2.2.2] := by rw [valA_ne (by omega)]; rfl
/-- ablaut/depend.ValidateHooks$1: 1 parameters, 0 captured -/
def s67 : SC := .seq (.reg [⟨(some 1), .box 57 6 (.t 0), none⟩,
     ⟨(some 2), .mv (.c (.bool false)), none⟩])
  (.seq (.reg [⟨(some 3), .faddr 0 (.t 1), none⟩,
      ⟨(some 4), .load none (.t 3), none⟩,
      ⟨(some 5), .lenL (.t 4), none⟩,
      ⟨(some 6), .faddr 1 (.t 1), none⟩,
      ⟨(some 7), .load none (.t 6), none⟩,
      ⟨(some 8), .lenL (.t 7), none⟩,
      ⟨(some 9), .faddr 2 (.t 1), none⟩,
      ⟨(some 10), .load none (.t 9), none⟩,
      ⟨(some 11), .lenL (.t 10), none⟩,
      ⟨(some 12), .max3 (.t 5) (.t 8) (.t 11), none⟩,
      ⟨(some 13), .bin .gtr (.t 12) (.c (.int .i64 16)), none⟩,
      ⟨(some 2), .mv (.t 13), none⟩])
   (.ret))
theorem s67_ok : lookF Try.prog 67 = some (s67, 14, [.tmp 2]) := by kernel_rfl
theorem longK_ok (h : Hook) : Fn P 67 [valA h] (boolA (longK h)) := by
  rw [valA_hook]
  (refine fn_look s67_ok (by simp) (by intro k; simp only [go_sem, Nat.reduceEqDiff, ↓reduceIte, reduceCtorEq, Nat.reduceAdd, Nat.reduceMul, Int.reduceToNat, List.reduceReplicate, Nat.reduceLeDiff, Nat.reduceLT, Int.reduceLT, Int.reduceLE, Int.reduceEq]) fun S hS => cwp_sound _ _ _ _ ?_; simp (disch := omega) only [s67, go_sem, Nat.reduceEqDiff, ↓reduceIte, reduceCtorEq, Nat.reduceAdd, Nat.reduceMul, Int.reduceToNat, List.reduceReplicate, Nat.reduceLeDiff, Nat.reduceLT, Int.reduceLT, Int.reduceLE, Int.reduceEq])
  repeat' (first | (with_reducible refine in_seq ?_) | (with_reducible refine in_reg ?_) | (with_reducible refine in_block ?_) | (with_reducible refine in_cond ?_) | (with_reducible refine in_ret ?_) | (with_reducible refine in_skip ?_) | (simp (disch := omega) only [go_sem, Nat.reduceEqDiff, ↓reduceIte, reduceCtorEq, Nat.reduceAdd, Nat.reduceMul, Int.reduceToNat, List.reduceReplicate, Nat.reduceLeDiff, Nat.reduceLT, Int.reduceLT, Int.reduceLE, Int.reduceEq]) | (with_reducible refine giv_intro fun _h => ?_) | (with_reducible refine alt_intro ?_ (fun _h => ?_)) | ((first | with_reducible refine br_dec (fun _h => ?_) (fun _h => ?_) | with_reducible refine br_ndec (fun _h => ?_) (fun _h => ?_)) <;> (first | (exfalso; omega) | simp only [decide_eq_false _h] | simp only [decide_eq_true _h] | skip)) | ((first | with_reducible refine br_not (fun _h => ?_) (fun _h => ?_) | with_reducible refine br_var (fun _h => ?_) (fun _h => ?_)) <;> (try simp only [_h])) | fail)
  rfl
/-- ablaut/depend.ValidateHooks: 1 parameters, 0 captured -/
def s36 : SC := .seq (.reg [⟨(some 2), .mv (.c (.int .i64 0)), none⟩])
  (.seq (.seq (.reg [⟨(some 5), .mv (.t 0), none⟩,
       ⟨(some 6), .lenL (.t 5), none⟩,
       ⟨(some 7), .bin .gtr (.t 6) (.c (.int .i64 24)), none⟩,
       ⟨(some 8), .mv (.t 7), none⟩,
       ⟨(some 9), .mv (.t 0), some (8, false)⟩,
       ⟨(some 10), .call (.f 66) [(.t 9), (.f 67)], some (8, false)⟩,
       ⟨(some 11), .pick (.t 8) (.c (.bool true)) (.t 10), none⟩])
    (.cond (.t 11) (.seq (.reg [⟨(some 2), .mv (.c (.int .i64 3)), none⟩])
      (.ret)) (.skip)))
   (.seq (.seq (.reg [⟨(some 12), .mv (.t 0), none⟩,
        ⟨(some 13), .lenL (.t 12), none⟩,
        ⟨(some 14), .mv (.c (.int .i64 0)), none⟩])
     (.block 0 (.loop (.seq (.reg [⟨(some 15), .bin .lss (.t 14) (.t 13), none⟩])
        (.seq (.cond (.t 15) (.skip) (.exit 0))
         (.seq (.block 1 (.seq (.reg [⟨(some 16), .iaddr 6 (.t 12) (.t 14), none⟩,
               ⟨(some 17), .load (some 6) (.t 16), none⟩,
               ⟨(some 4), .alloc 57 6 [(.slice none 0 0), (.slice none 0 0), (.slice none 0 0), (.int .i64 0), (.int .i64 0), (.string ⟨#[]⟩)], none⟩,
               ⟨none, .store 6 (.t 4) (.t 17), none⟩])
            (.seq (.reg [⟨(some 18), .faddr 0 (.t 4), none⟩,
                ⟨(some 19), .load none (.t 18), none⟩,
                ⟨(some 20), .call (.f 56) [(.t 19)], none⟩,
                ⟨(some 21), .un .not (.t 20), none⟩,
                ⟨(some 22), .mv (.t 21), none⟩,
                ⟨(some 23), .faddr 1 (.t 4), some (22, false)⟩,
                ⟨(some 24), .load none (.t 23), some (22, false)⟩,
                ⟨(some 25), .call (.f 56) [(.t 24)], some (22, false)⟩,
                ⟨(some 26), .un .not (.t 25), some (22, false)⟩,
                ⟨(some 27), .pick (.t 22) (.c (.bool true)) (.t 26), none⟩,
                ⟨(some 28), .mv (.t 27), none⟩,
                ⟨(some 29), .faddr 2 (.t 4), some (28, false)⟩,
                ⟨(some 30), .load none (.t 29), some (28, false)⟩,
                ⟨(some 31), .call (.f 56) [(.t 30)], some (28, false)⟩,
                ⟨(some 32), .un .not (.t 31), some (28, false)⟩,
                ⟨(some 33), .pick (.t 28) (.c (.bool true)) (.t 32), none⟩,
                ⟨(some 34), .mv (.t 33), none⟩,
                ⟨(some 35), .faddr 3 (.t 4), some (34, false)⟩,
                ⟨(some 36), .load none (.t 35), some (34, false)⟩,
                ⟨(some 37), .bin .lss (.t 36) (.c (.int .i64 (-1))), some (34, false)⟩,
                ⟨(some 38), .pick (.t 34) (.c (.bool true)) (.t 37), none⟩,
                ⟨(some 39), .mv (.t 38), none⟩,
                ⟨(some 40), .faddr 3 (.t 4), some (39, false)⟩,
                ⟨(some 41), .load none (.t 40), some (39, false)⟩,
                ⟨(some 42), .bin .gtr (.t 41) (.c (.int .i64 1)), some (39, false)⟩,
                ⟨(some 43), .pick (.t 39) (.c (.bool true)) (.t 42), none⟩,
                ⟨(some 44), .mv (.t 43), none⟩,
                ⟨(some 45), .faddr 4 (.t 4), some (44, false)⟩,
                ⟨(some 46), .load none (.t 45), some (44, false)⟩,
                ⟨(some 47), .bin .lss (.t 46) (.c (.int .i64 1)), some (44, false)⟩,
                ⟨(some 48), .pick (.t 44) (.c (.bool true)) (.t 47), none⟩,
                ⟨(some 49), .mv (.t 48), none⟩,
                ⟨(some 50), .faddr 4 (.t 4), some (49, false)⟩,
                ⟨(some 51), .load none (.t 50), some (49, false)⟩,
                ⟨(some 52), .bin .gtr (.t 51) (.c (.int .i64 200)), some (49, false)⟩,
                ⟨(some 53), .pick (.t 49) (.c (.bool true)) (.t 52), none⟩,
                ⟨(some 54), .mv (.t 53), none⟩,
                ⟨(some 55), .faddr 5 (.t 4), some (54, false)⟩,
                ⟨(some 56), .load none (.t 55), some (54, false)⟩,
                ⟨(some 57), .call (.f 68) [(.t 56)], some (54, false)⟩,
                ⟨(some 58), .un .not (.t 57), some (54, false)⟩,
                ⟨(some 59), .pick (.t 54) (.c (.bool true)) (.t 58), none⟩])
             (.cond (.t 59) (.seq (.reg [⟨(some 2), .mv (.c (.int .i64 1)), none⟩])
               (.ret)) (.skip)))))
          (.reg [⟨(some 60), .bin .add (.t 14) (.c (.int .i64 1)), none⟩,
             ⟨(some 14), .mv (.t 60), none⟩])))))))
    (.seq (.reg [⟨(some 2), .mv (.c (.int .i64 0)), none⟩])
     (.ret))))
theorem s36_ok : lookF Try.prog 36 = some (s36, 61, [.tmp 2]) := by kernel_rfl
set_option maxHeartbeats 2000000 in
theorem vHooks_ok (l : List Hook) (hs : SmK l) : Fn P 36 [sl l] (intA (formK l)) := by
  have c1 := hokAny_ok l longK 67 [] (by simp) (fun h _ => longK_ok h)
  by_cases hL : 24 < l.length ∨ l.any longK = true
  · rw [formK, if_pos hL]
    by_cases hL2 : 24 < l.length
    · (refine fn_look s36_ok (by simp) (by intro k; simp only [go_sem, Nat.reduceEqDiff, ↓reduceIte, reduceCtorEq, Nat.reduceAdd, Nat.reduceMul, Int.reduceToNat, List.reduceReplicate, Nat.reduceLeDiff, Nat.reduceLT, Int.reduceLT, Int.reduceLE, Int.reduceEq]) fun S hS => cwp_sound _ _ _ _ ?_; simp (disch := omega) only [s36, go_sem, Nat.reduceEqDiff, ↓reduceIte, reduceCtorEq, Nat.reduceAdd, Nat.reduceMul, Int.reduceToNat, List.reduceReplicate, Nat.reduceLeDiff, Nat.reduceLT, Int.reduceLT, Int.reduceLE, Int.reduceEq])
      repeat' (first | (with_reducible refine in_seq ?_) | (with_reducible refine in_reg ?_) | (with_reducible refine in_block ?_) | (with_reducible refine in_cond ?_) | (with_reducible refine in_ret ?_) | (with_reducible refine in_skip ?_) | (simp (disch := omega) only [go_sem, Nat.reduceEqDiff, ↓reduceIte, reduceCtorEq, Nat.reduceAdd, Nat.reduceMul, Int.reduceToNat, List.reduceReplicate, Nat.reduceLeDiff, Nat.reduceLT, Int.reduceLT, Int.reduceLE, Int.reduceEq]) | (with_reducible refine giv_intro fun _h => ?_) | (with_reducible refine alt_intro ?_ (fun _h => ?_)) | ((first | with_reducible refine br_dec (fun _h => ?_) (fun _h => ?_) | with_reducible refine br_ndec (fun _h => ?_) (fun _h => ?_)) <;> (first | (exfalso; omega) | simp only [decide_eq_false _h] | simp only [decide_eq_true _h] | skip)) | ((first | with_reducible refine br_not (fun _h => ?_) (fun _h => ?_) | with_reducible refine br_var (fun _h => ?_) (fun _h => ?_)) <;> (try simp only [_h])) | ((with_reducible apply call (c1)); (focus (simp (disch := omega) only [go_sem, Nat.reduceEqDiff, ↓reduceIte, reduceCtorEq, Nat.reduceAdd, Nat.reduceMul, Int.reduceToNat, List.reduceReplicate, Nat.reduceLeDiff, Nat.reduceLT, Int.reduceLT, Int.reduceLE, Int.reduceEq]; (try rfl); done))) | fail)
    · have hL3 := hL.resolve_left hL2
      rw [hL3] at c1
      (refine fn_look s36_ok (by simp) (by intro k; simp only [go_sem, Nat.reduceEqDiff, ↓reduceIte, reduceCtorEq, Nat.reduceAdd, Nat.reduceMul, Int.reduceToNat, List.reduceReplicate, Nat.reduceLeDiff, Nat.reduceLT, Int.reduceLT, Int.reduceLE, Int.reduceEq]) fun S hS => cwp_sound _ _ _ _ ?_; simp (disch := omega) only [s36, go_sem, Nat.reduceEqDiff, ↓reduceIte, reduceCtorEq, Nat.reduceAdd, Nat.reduceMul, Int.reduceToNat, List.reduceReplicate, Nat.reduceLeDiff, Nat.reduceLT, Int.reduceLT, Int.reduceLE, Int.reduceEq])
      repeat' (first | (with_reducible refine in_seq ?_) | (with_reducible refine in_reg ?_) | (with_reducible refine in_block ?_) | (with_reducible refine in_cond ?_) | (with_reducible refine in_ret ?_) | (with_reducible refine in_skip ?_) | (simp (disch := omega) only [go_sem, Nat.reduceEqDiff, ↓reduceIte, reduceCtorEq, Nat.reduceAdd, Nat.reduceMul, Int.reduceToNat, List.reduceReplicate, Nat.reduceLeDiff, Nat.reduceLT, Int.reduceLT, Int.reduceLE, Int.reduceEq]) | (with_reducible refine giv_intro fun _h => ?_) | (with_reducible refine alt_intro ?_ (fun _h => ?_)) | ((first | with_reducible refine br_dec (fun _h => ?_) (fun _h => ?_) | with_reducible refine br_ndec (fun _h => ?_) (fun _h => ?_)) <;> (first | (exfalso; omega) | simp only [decide_eq_false _h] | simp only [decide_eq_true _h] | skip)) | ((first | with_reducible refine br_not (fun _h => ?_) (fun _h => ?_) | with_reducible refine br_var (fun _h => ?_) (fun _h => ?_)) <;> (try simp only [_h])) | ((with_reducible apply call (c1)); (focus (simp (disch := omega) only [go_sem, Nat.reduceEqDiff, ↓reduceIte, reduceCtorEq, Nat.reduceAdd, Nat.reduceMul, Int.reduceToNat, List.reduceReplicate, Nat.reduceLeDiff, Nat.reduceLT, Int.reduceLT, Int.reduceLE, Int.reduceEq]; (try rfl); done))) | fail)
  · rw [formK, if_neg hL]
    have hL2 : ¬24 < l.length := fun h => hL (.inl h)
    have hL3 : l.any longK = false := by rw [← Bool.not_eq_true]; exact fun h => hL (.inr h)
    rw [hL3] at c1
    (refine fn_look s36_ok (by simp) (by intro k; simp only [go_sem, Nat.reduceEqDiff, ↓reduceIte, reduceCtorEq, Nat.reduceAdd, Nat.reduceMul, Int.reduceToNat, List.reduceReplicate, Nat.reduceLeDiff, Nat.reduceLT, Int.reduceLT, Int.reduceLE, Int.reduceEq]) fun S hS => cwp_sound _ _ _ _ ?_; simp (disch := omega) only [s36, go_sem, Nat.reduceEqDiff, ↓reduceIte, reduceCtorEq, Nat.reduceAdd, Nat.reduceMul, Int.reduceToNat, List.reduceReplicate, Nat.reduceLeDiff, Nat.reduceLT, Int.reduceLT, Int.reduceLE, Int.reduceEq])
    repeat' (first | (with_reducible refine in_seq ?_) | (with_reducible refine in_reg ?_) | (with_reducible refine in_block ?_) | (with_reducible refine in_cond ?_) | (with_reducible refine in_ret ?_) | (with_reducible refine in_skip ?_) | (simp (disch := omega) only [go_sem, Nat.reduceEqDiff, ↓reduceIte, reduceCtorEq, Nat.reduceAdd, Nat.reduceMul, Int.reduceToNat, List.reduceReplicate, Nat.reduceLeDiff, Nat.reduceLT, Int.reduceLT, Int.reduceLE, Int.reduceEq]) | (with_reducible refine giv_intro fun _h => ?_) | (with_reducible refine alt_intro ?_ (fun _h => ?_)) | ((first | with_reducible refine br_dec (fun _h => ?_) (fun _h => ?_) | with_reducible refine br_ndec (fun _h => ?_) (fun _h => ?_)) <;> (first | (exfalso; omega) | simp only [decide_eq_false _h] | simp only [decide_eq_true _h] | skip)) | ((first | with_reducible refine br_not (fun _h => ?_) (fun _h => ?_) | with_reducible refine br_var (fun _h => ?_) (fun _h => ?_)) <;> (try simp only [_h])) | ((with_reducible apply call (c1)); (focus (simp (disch := omega) only [go_sem, Nat.reduceEqDiff, ↓reduceIte, reduceCtorEq, Nat.reduceAdd, Nat.reduceMul, Int.reduceToNat, List.reduceReplicate, Nat.reduceLeDiff, Nat.reduceLT, Int.reduceLT, Int.reduceLE, Int.reduceEq]; (try rfl); done))) | fail)
    (refine loopC hS [12, 13] (by simp only [go_sem, Nat.reduceEqDiff, ↓reduceIte, reduceCtorEq, Nat.reduceAdd, Nat.reduceMul, Int.reduceToNat, List.reduceReplicate, Nat.reduceLeDiff, Nat.reduceLT, Int.reduceLT, Int.reduceLE, Int.reduceEq]; try rfl) (fun (i : Nat) => [(14, intA i)]) (fun (i : Nat) => []) (fun (i : Nat) => i ≤ l.length ∧ l.all goodK = (l.drop i).all goodK) (fun (i : Nat) => l.length - i) (0) ?h09 ?hn9 ?rd9; case hn9 => (intro s; first | rfl | (rcases s with ⟨_, _⟩; rfl) | (rcases s with ⟨_, _, _⟩; rfl) | (rcases s with ⟨_, _, _, _⟩; rfl) | (rcases s with ⟨_, _, _, _, _⟩; rfl)))
    · simp (disch := omega) only [go_sem, Nat.reduceEqDiff, ↓reduceIte, reduceCtorEq, Nat.reduceAdd, Nat.reduceMul, Int.reduceToNat, List.reduceReplicate, Nat.reduceLeDiff, Nat.reduceLT, Int.reduceLT, Int.reduceLE, Int.reduceEq]; simp
    rintro i ⟨hi, hI⟩
    replace hi : i ≤ l.length := hi
    replace hI : l.all goodK = (l.drop i).all goodK := hI
    by_cases hil : i < l.length
    · have hst := all_step hil hI
      obtain ⟨hz1, hz2, hz3, hz4⟩ := hs.2 _ (nth_mem hil)
      have c2 := isName_ok (nth l i).2.2.2.2.2 (by omega)
      have c3 := isSet_ok (nth l i).1 hz1.sizes
      have c4 := isSet_ok (nth l i).2.1 hz2.sizes
      have c5 := isSet_ok (nth l i).2.2.1 hz3.sizes
      have hg : goodK (nth l i) = (setB (nth l i).1 && (setB (nth l i).2.1 && (setB (nth l i).2.2.1 && (decide (-1 ≤ (nth l i).2.2.2.1 ∧ (nth l i).2.2.2.1 ≤ 1 ∧ 1 ≤ (nth l i).2.2.2.2.1 ∧ (nth l i).2.2.2.2.1 ≤ 200) && nameB (nth l i).2.2.2.2.2)))) := rfl
      have bad : goodK (nth l i) = false → (1 : Int) = if l.all goodK = true then 0 else 1 := fun h => by rw [hst, h]; rfl
      have good : goodK (nth l i) = true → l.all goodK = (l.drop (i + 1)).all goodK := fun h => by rw [hst, h, Bool.true_and]
      repeat' (first | (with_reducible refine in_seq ?_) | (with_reducible refine in_reg ?_) | (with_reducible refine in_block ?_) | (with_reducible refine in_cond ?_) | (with_reducible refine in_ret ?_) | (with_reducible refine in_skip ?_) | (simp (disch := omega) only [go_sem, Nat.reduceEqDiff, ↓reduceIte, reduceCtorEq, Nat.reduceAdd, Nat.reduceMul, Int.reduceToNat, List.reduceReplicate, Nat.reduceLeDiff, Nat.reduceLT, Int.reduceLT, Int.reduceLE, Int.reduceEq]) | (with_reducible refine giv_intro fun _h => ?_) | (with_reducible refine alt_intro ?_ (fun _h => ?_)) | ((first | with_reducible refine br_dec (fun _h => ?_) (fun _h => ?_) | with_reducible refine br_ndec (fun _h => ?_) (fun _h => ?_)) <;> (first | (exfalso; omega) | simp only [decide_eq_false _h] | simp only [decide_eq_true _h] | skip)) | ((first | with_reducible refine br_not (fun _h => ?_) (fun _h => ?_) | with_reducible refine br_var (fun _h => ?_) (fun _h => ?_)) <;> (try simp only [_h])) | ((with_reducible apply call (c2)); (focus (simp (disch := omega) only [go_sem, Nat.reduceEqDiff, ↓reduceIte, reduceCtorEq, Nat.reduceAdd, Nat.reduceMul, Int.reduceToNat, List.reduceReplicate, Nat.reduceLeDiff, Nat.reduceLT, Int.reduceLT, Int.reduceLE, Int.reduceEq]; (try rfl); done))) | ((with_reducible apply call (c3)); (focus (simp (disch := omega) only [go_sem, Nat.reduceEqDiff, ↓reduceIte, reduceCtorEq, Nat.reduceAdd, Nat.reduceMul, Int.reduceToNat, List.reduceReplicate, Nat.reduceLeDiff, Nat.reduceLT, Int.reduceLT, Int.reduceLE, Int.reduceEq]; (try rfl); done))) | ((with_reducible apply call (c4)); (focus (simp (disch := omega) only [go_sem, Nat.reduceEqDiff, ↓reduceIte, reduceCtorEq, Nat.reduceAdd, Nat.reduceMul, Int.reduceToNat, List.reduceReplicate, Nat.reduceLeDiff, Nat.reduceLT, Int.reduceLT, Int.reduceLE, Int.reduceEq]; (try rfl); done))) | ((with_reducible apply call (c5)); (focus (simp (disch := omega) only [go_sem, Nat.reduceEqDiff, ↓reduceIte, reduceCtorEq, Nat.reduceAdd, Nat.reduceMul, Int.reduceToNat, List.reduceReplicate, Nat.reduceLeDiff, Nat.reduceLT, Int.reduceLT, Int.reduceLE, Int.reduceEq]; (try rfl); done))) | fail)
      all_goals first
        | exact bad (by rw [hg, ← Bool.not_eq_true]; simp only [Bool.and_eq_true, decide_eq_true_eq]; rintro ⟨q1, q2, q3, q4, q5⟩; first | omega | (rw [q1] at _h; cases _h) | (rw [q2] at _h; cases _h) | (rw [q3] at _h; cases _h) | (rw [q5] at _h; cases _h))
        | exact ⟨i + 1, ⟨by omega, by omega, good (by rw [hg]; simp only [Bool.and_eq_true, decide_eq_true_eq]; exact ⟨by assumption, by assumption, by assumption, by omega, by assumption⟩)⟩, by omega⟩
    · rw [List.drop_eq_nil_of_le (by omega)] at hI
      rw [hI]
      repeat' (first | (with_reducible refine in_seq ?_) | (with_reducible refine in_reg ?_) | (with_reducible refine in_block ?_) | (with_reducible refine in_cond ?_) | (with_reducible refine in_ret ?_) | (with_reducible refine in_skip ?_) | (simp (disch := omega) only [go_sem, Nat.reduceEqDiff, ↓reduceIte, reduceCtorEq, Nat.reduceAdd, Nat.reduceMul, Int.reduceToNat, List.reduceReplicate, Nat.reduceLeDiff, Nat.reduceLT, Int.reduceLT, Int.reduceLE, Int.reduceEq]) | (with_reducible refine giv_intro fun _h => ?_) | (with_reducible refine alt_intro ?_ (fun _h => ?_)) | ((first | with_reducible refine br_dec (fun _h => ?_) (fun _h => ?_) | with_reducible refine br_ndec (fun _h => ?_) (fun _h => ?_)) <;> (first | (exfalso; omega) | simp only [decide_eq_false _h] | simp only [decide_eq_true _h] | skip)) | ((first | with_reducible refine br_not (fun _h => ?_) (fun _h => ?_) | with_reducible refine br_var (fun _h => ?_) (fun _h => ?_)) <;> (try simp only [_h])) | fail)
end Go.Proofs.Ytkedbkdbnmmkhaa.Ev

/- The law HarmUndoubles. -/
import Derived.Test.YtpfoflhhbkjngaaFnHo
set_option linter.unusedVariables false
set_option linter.unusedSimpArgs false
namespace Go.Proofs.Ytpfoflhhbkjngaa.Ev
open Go Go.Proofs
theorem wordErr_zero {l : List Str} : wordErr l = 0 ↔ l.length ≤ 60 ∧ ∀ s ∈ l, s.size ≤ 16 ∧ (okText s && decide (s.size ≠ 0)) = true := by
  unfold wordErr
  constructor
  · intro h
    split at h
    · cases h
    · rename_i h1
      split at h
      · cases h
      · rename_i h2
        refine ⟨by omega, fun s hs => ⟨?_, ?_⟩⟩
        · rcases Nat.lt_or_ge 16 s.size with h3 | h3
          · exact absurd (.inr (List.any_eq_true.2 ⟨s, hs, decide_eq_true h3⟩)) h1
          · exact h3
        · cases h4 : (okText s && decide (s.size ≠ 0)) with
          | true => rfl
          | false => exact absurd (List.any_eq_true.2 ⟨s, hs, by rw [h4]; rfl⟩) h2
  · rintro ⟨h1, h2⟩
    rw [if_neg, if_neg]
    · intro h3
      obtain ⟨s, hs, h4⟩ := List.any_eq_true.1 h3
      rw [(h2 s hs).2] at h4; cases h4
    · rintro (h3 | h3)
      · omega
      · obtain ⟨s, hs, h4⟩ := List.any_eq_true.1 h3
        have := (h2 s hs).1
        have := of_decide_eq_true h4
        omega
theorem headL_mem (v : Str → Bool) (lo : Str → Int) (w : List Str) (kind : Int) : ∀ y ∈ headL v lo w kind, y ∈ w ∨ y = ⟨#[101]⟩ := by
  intro y hy
  unfold headL at hy
  split at hy
  · simp at hy
  · rename_i h
    split at hy
    · exact .inl hy
    · split at hy
      · left
        have := syl_flat v lo w
        rw [← this]
        exact List.mem_flatten.2 ⟨_, nth_mem (sylL_pos v lo h), hy⟩
      · split at hy
        · split at hy
          · exact .inl hy
          · exact .inl (List.mem_of_mem_take hy)
        · rcases List.mem_cons.1 hy with rfl | hy
          · exact .inl (nth_mem (by omega))
          · simp at hy; exact .inr hy
theorem undU_in (v : Str → Bool) (lo : Str → Int) (w : List Str) (kind : Int) {j : Nat} (h : headL v lo (w.drop j) kind = w.take j) : ∀ i, j < i → w.drop j ∈ undU v lo w kind i
  | 0, hj => by omega
  | i + 1, hj => by
    simp only [undU]
    by_cases e : j = i
    · subst e; rw [if_pos h]; simp
    · have := undU_in v lo w kind h i (by omega)
      split
      · simp [this]
      · exact this
theorem und_back {s : List Sound} {w : List Str} {kind : Int} (h : (dblT s w kind).2 = 0) : ∃ l, undT s (dblT s w kind).1 kind = (l, 0) ∧ w ∈ l := by
  unfold dblT at h ⊢
  split at h
  · rename_i h1; exact absurd h h1
  · rename_i h1
    rw [if_neg h1]
    split at h
    · cases h
    · rename_i h2
      rw [if_neg h2]
      dsimp only at h ⊢
      have hlen : (dblL s w kind).length ≤ 60 := by
        unfold heldE at h
        split at h
        · cases h
        · omega
      have hv : heldV (dblL s w kind) = dblL s w kind := by rw [heldV, if_neg (by omega)]
      rw [hv]
      have hz : dblE0 s w = 0 := by omega
      obtain ⟨e1, e2⟩ := two_zero (show firstE [sndErr s, wordsErr [w]] = 0 from hz)
      have hw := wordErr_zero.1 (wordsErr_one e2)
      have hx : wordErr (dblL s w kind) = 0 := by
        refine wordErr_zero.2 ⟨hlen, fun y hy => ?_⟩
        rcases List.mem_append.1 hy with hy | hy
        · rcases headL_mem _ _ _ _ y hy with hy | rfl
          · exact hw.2 y hy
          · exact ⟨by decide, by decide⟩
        · exact hw.2 y hy
      have hE : dblE0 s (dblL s w kind) = 0 := by
        unfold dblE0
        rw [firstTwo, if_neg (by omega)]
        simp only [wordsErr]; rw [if_neg (by omega)]
      refine ⟨undU (vowR s) (louR s) (dblL s w kind) kind ((dblL s w kind).length + 1), ?_, ?_⟩
      · rw [undT, if_neg (by omega), if_neg h2]
      · have hd : (dblL s w kind).drop (headL (vowR s) (louR s) w kind).length = w := by unfold dblL; simp
        have ht : (dblL s w kind).take (headL (vowR s) (louR s) w kind).length = headL (vowR s) (louR s) w kind := by unfold dblL; simp
        have hj : (headL (vowR s) (louR s) w kind).length < (dblL s w kind).length + 1 := by unfold dblL; simp; omega
        have := undU_in (vowR s) (louR s) (dblL s w kind) kind (j := (headL (vowR s) (louR s) w kind).length) (by rw [hd, ht]) _ hj
        rwa [hd] at this
/-- ablaut/ablautlaw13.HarmUndoubles: 3 parameters, 0 captured -/
def s11 : SC := .seq (.reg [⟨(some 3), .box 37 1 (.t 0), none⟩,
     ⟨(some 6), .mv (.c (.bool false)), none⟩])
  (.seq (.seq (.reg [⟨(some 12), .load (some 1) (.t 3), none⟩,
       ⟨(some 13), .call (.f 25) [(.t 12)], none⟩,
       ⟨(some 14), .mv (.t 13), none⟩,
       ⟨(some 15), .mv (.t 1), some (14, false)⟩,
       ⟨(some 16), .buildSl 22 1 1 [(.slice none 0 0)] [(0, 1, (.t 15))], some (14, false)⟩,
       ⟨(some 17), .call (.f 16) [(.t 16)], some (14, false)⟩,
       ⟨(some 18), .bin .gtr (.t 17) (.c (.int .i64 32000)), some (14, false)⟩,
       ⟨(some 19), .pick (.t 14) (.c (.bool true)) (.t 18), none⟩])
    (.cond (.t 19) (.seq (.reg [⟨(some 20), .call (.f 17) [], none⟩,
         ⟨(some 6), .mv (.t 20), none⟩])
      (.ret)) (.skip)))
   (.seq (.reg [⟨(some 22), .load (some 1) (.t 3), none⟩,
       ⟨(some 23), .mv (.t 1), none⟩,
       ⟨(some 24), .mv (.t 2), none⟩,
       ⟨(some 25), .call (.f 40) [(.t 22), (.t 23), (.t 24)], none⟩,
       ⟨(some 21), .mv (.t 25), none⟩,
       ⟨(some 26), .ext (.t 21) 0, none⟩,
       ⟨(some 27), .ext (.t 21) 1, none⟩,
       ⟨(some 7), .mv (.t 26), none⟩,
       ⟨(some 8), .mv (.t 27), none⟩])
    (.seq (.seq (.reg [⟨(some 28), .mv (.t 8), none⟩,
         ⟨(some 29), .bin .neq (.t 28) (.c (.int .i64 0)), none⟩])
      (.cond (.t 29) (.seq (.reg [⟨(some 30), .call (.f 17) [], none⟩,
           ⟨(some 6), .mv (.t 30), none⟩])
        (.ret)) (.skip)))
     (.seq (.reg [⟨(some 32), .load (some 1) (.t 3), none⟩,
         ⟨(some 33), .mv (.t 7), none⟩,
         ⟨(some 34), .mv (.t 2), none⟩,
         ⟨(some 35), .call (.f 42) [(.t 32), (.t 33), (.t 34)], none⟩,
         ⟨(some 31), .mv (.t 35), none⟩,
         ⟨(some 36), .ext (.t 31) 0, none⟩,
         ⟨(some 37), .ext (.t 31) 1, none⟩,
         ⟨(some 9), .mv (.t 36), none⟩,
         ⟨(some 10), .mv (.t 37), none⟩])
      (.seq (.seq (.reg [⟨(some 11), .mv (.c (.int .i64 0)), none⟩])
        (.block 0 (.loop (.seq (.seq (.reg [⟨(some 38), .mv (.t 11), none⟩,
               ⟨(some 39), .mv (.t 9), none⟩,
               ⟨(some 40), .lenL (.t 39), none⟩,
               ⟨(some 41), .bin .lss (.t 38) (.t 40), none⟩,
               ⟨(some 42), .mv (.t 41), none⟩,
               ⟨(some 43), .mv (.t 10), some (42, true)⟩,
               ⟨(some 44), .bin .eql (.t 43) (.c (.int .i64 0)), some (42, true)⟩,
               ⟨(some 45), .pick (.t 42) (.t 44) (.c (.bool false)), none⟩])
            (.cond (.t 45) (.skip) (.exit 0)))
           (.seq (.block 1 (.seq (.reg [⟨(some 48), .mv (.t 9), none⟩,
                 ⟨(some 49), .mv (.t 11), none⟩,
                 ⟨(some 50), .iaddr 1 (.t 48) (.t 49), none⟩,
                 ⟨(some 51), .load none (.t 50), none⟩,
                 ⟨(some 52), .mv (.t 1), none⟩,
                 ⟨(some 53), .call (.f 22) [(.t 51), (.t 52)], none⟩])
              (.cond (.t 53) (.seq (.reg [⟨(some 54), .call (.f 17) [], none⟩,
                   ⟨(some 6), .mv (.t 54), none⟩])
                (.ret)) (.skip))))
            (.reg [⟨(some 46), .mv (.t 11), none⟩,
               ⟨(some 47), .bin .add (.t 46) (.c (.int .i64 1)), none⟩,
               ⟨(some 11), .mv (.t 47), none⟩]))))))
       (.seq (.reg [⟨(some 6), .mv (.c (.bool false)), none⟩])
        (.ret)))))))
theorem s11_ok : lookF Try.prog 11 = some (s11, 55, [.tmp 6]) := by kernel_rfl
set_option maxHeartbeats 1000000 in
theorem HarmUndoubles_ok (s : List Sound) (w : List Str) (kind : Int) : Fn P 11 [sndA s, sl w, intA kind] (boolA true) := by
  have k1 := hDouble_ok s w kind
  have hb := und_back (s := s) (w := w) (kind := kind)
  by_cases h : (dblT s w kind).2 = 0
  · obtain ⟨l, h1, h2⟩ := hb h
    have k3 := hUndouble_ok s (dblT s w kind).1 kind
    rw [h1] at k3
    generalize hd : dblT s w kind = t1 at *
    obtain ⟨x, e⟩ := t1
    dsimp only at h k1 k3
    subst h
    (refine fn_look s11_ok (by simp) (by intro k; simp only [go_sem, Nat.reduceEqDiff, ↓reduceIte, reduceCtorEq, Nat.reduceAdd, Nat.reduceMul, Int.reduceToNat, List.reduceReplicate, Nat.reduceLeDiff, Nat.reduceLT, Int.reduceLT, Int.reduceLE, Int.reduceEq]) fun S hS => cwp_sound _ _ _ _ ?_; simp (disch := omega) only [s11, go_sem, Nat.reduceEqDiff, ↓reduceIte, reduceCtorEq, Nat.reduceAdd, Nat.reduceMul, Int.reduceToNat, List.reduceReplicate, Nat.reduceLeDiff, Nat.reduceLT, Int.reduceLT, Int.reduceLE, Int.reduceEq])
    repeat' (first | (with_reducible refine in_seq ?_) | (with_reducible refine in_reg ?_) | (with_reducible refine in_block ?_) | (with_reducible refine in_cond ?_) | (with_reducible refine in_ret ?_) | (with_reducible refine in_skip ?_) | (simp (disch := omega) only [go_sem, Nat.reduceEqDiff, ↓reduceIte, reduceCtorEq, Nat.reduceAdd, Nat.reduceMul, Int.reduceToNat, List.reduceReplicate, Nat.reduceLeDiff, Nat.reduceLT, Int.reduceLT, Int.reduceLE, Int.reduceEq]) | (with_reducible refine giv_intro fun _h => ?_) | (with_reducible refine alt_intro ?_ (fun _h => ?_)) | ((first | with_reducible refine br_dec (fun _h => ?_) (fun _h => ?_) | with_reducible refine br_ndec (fun _h => ?_) (fun _h => ?_)) <;> (first | (exfalso; omega) | simp only [decide_eq_false _h] | simp only [decide_eq_true _h] | skip)) | ((first | with_reducible refine br_not (fun _h => ?_) (fun _h => ?_) | with_reducible refine br_var (fun _h => ?_) (fun _h => ?_)) <;> (try simp only [_h])) | ((with_reducible apply call (known_ok)); (focus (simp (disch := omega) only [go_sem, Nat.reduceEqDiff, ↓reduceIte, reduceCtorEq, Nat.reduceAdd, Nat.reduceMul, Int.reduceToNat, List.reduceReplicate, Nat.reduceLeDiff, Nat.reduceLT, Int.reduceLT, Int.reduceLE, Int.reduceEq]; (try rfl); done))) | ((with_reducible apply callR (over_ok s)); (focus (simp (disch := omega) only [go_sem, Nat.reduceEqDiff, ↓reduceIte, reduceCtorEq, Nat.reduceAdd, Nat.reduceMul, Int.reduceToNat, List.reduceReplicate, Nat.reduceLeDiff, Nat.reduceLT, Int.reduceLT, Int.reduceLE, Int.reduceEq]; (try rfl); done)); (rintro _ ⟨_, rfl⟩)) | ((with_reducible apply callR_lend (bytes_ok [w] (by simp))); (focus (simp (disch := omega) only [go_sem, Nat.reduceEqDiff, ↓reduceIte, reduceCtorEq, Nat.reduceAdd, Nat.reduceMul, Int.reduceToNat, List.reduceReplicate, Nat.reduceLeDiff, Nat.reduceLT, Int.reduceLT, Int.reduceLE, Int.reduceEq]; (try rfl); done)); (focus (rintro _ ⟨_, rfl⟩; rfl)); (rintro _ ⟨_, rfl⟩)) | ((with_reducible apply call (k1)); (focus (simp (disch := omega) only [go_sem, Nat.reduceEqDiff, ↓reduceIte, reduceCtorEq, Nat.reduceAdd, Nat.reduceMul, Int.reduceToNat, List.reduceReplicate, Nat.reduceLeDiff, Nat.reduceLT, Int.reduceLT, Int.reduceLE, Int.reduceEq]; (try rfl); done))) | ((with_reducible apply call (k3)); (focus (simp (disch := omega) only [go_sem, Nat.reduceEqDiff, ↓reduceIte, reduceCtorEq, Nat.reduceAdd, Nat.reduceMul, Int.reduceToNat, List.reduceReplicate, Nat.reduceLeDiff, Nat.reduceLT, Int.reduceLT, Int.reduceLE, Int.reduceEq]; (try rfl); done))) | fail)
    (refine loopC hS [1, 9, 10] (by simp only [go_sem, Nat.reduceEqDiff, ↓reduceIte, reduceCtorEq, Nat.reduceAdd, Nat.reduceMul, Int.reduceToNat, List.reduceReplicate, Nat.reduceLeDiff, Nat.reduceLT, Int.reduceLT, Int.reduceLE, Int.reduceEq]; try rfl) (fun (i : Nat) => [(11, intA i)]) (fun (i : Nat) => [none, none]) (fun (i : Nat) => i ≤ l.length ∧ ∀ j, j < i → nth l j ≠ w) (fun (i : Nat) => l.length - i) (0) ?h01 ?hn1 ?rd1; case hn1 => (intro s; first | rfl | (rcases s with ⟨_, _⟩; rfl) | (rcases s with ⟨_, _, _⟩; rfl) | (rcases s with ⟨_, _, _, _⟩; rfl) | (rcases s with ⟨_, _, _, _, _⟩; rfl)))
    · simp (disch := omega) only [go_sem, Nat.reduceEqDiff, ↓reduceIte, reduceCtorEq, Nat.reduceAdd, Nat.reduceMul, Int.reduceToNat, List.reduceReplicate, Nat.reduceLeDiff, Nat.reduceLT, Int.reduceLT, Int.reduceLE, Int.reduceEq]; simp
    rintro i ⟨hi, hI⟩
    replace hi : i ≤ l.length := hi
    replace hI : ∀ j, j < i → nth l j ≠ w := hI
    by_cases hil : i < l.length
    · repeat' (first | (with_reducible refine in_seq ?_) | (with_reducible refine in_reg ?_) | (with_reducible refine in_block ?_) | (with_reducible refine in_cond ?_) | (with_reducible refine in_ret ?_) | (with_reducible refine in_skip ?_) | (simp (disch := omega) only [go_sem, Nat.reduceEqDiff, ↓reduceIte, reduceCtorEq, Nat.reduceAdd, Nat.reduceMul, Int.reduceToNat, List.reduceReplicate, Nat.reduceLeDiff, Nat.reduceLT, Int.reduceLT, Int.reduceLE, Int.reduceEq]) | (with_reducible refine giv_intro fun _h => ?_) | (with_reducible refine alt_intro ?_ (fun _h => ?_)) | ((first | with_reducible refine br_dec (fun _h => ?_) (fun _h => ?_) | with_reducible refine br_ndec (fun _h => ?_) (fun _h => ?_)) <;> (first | (exfalso; omega) | simp only [decide_eq_false _h] | simp only [decide_eq_true _h] | skip)) | ((first | with_reducible refine br_not (fun _h => ?_) (fun _h => ?_) | with_reducible refine br_var (fun _h => ?_) (fun _h => ?_)) <;> (try simp only [_h])) | ((with_reducible apply call (Same_ok _ _)); (focus (simp (disch := omega) only [go_sem, Nat.reduceEqDiff, ↓reduceIte, reduceCtorEq, Nat.reduceAdd, Nat.reduceMul, Int.reduceToNat, List.reduceReplicate, Nat.reduceLeDiff, Nat.reduceLT, Int.reduceLT, Int.reduceLE, Int.reduceEq]; (try rfl); done))) | ((with_reducible apply call (known_ok)); (focus (simp (disch := omega) only [go_sem, Nat.reduceEqDiff, ↓reduceIte, reduceCtorEq, Nat.reduceAdd, Nat.reduceMul, Int.reduceToNat, List.reduceReplicate, Nat.reduceLeDiff, Nat.reduceLT, Int.reduceLT, Int.reduceLE, Int.reduceEq]; (try rfl); done))) | fail)
      refine ⟨i + 1, ⟨by omega, by omega, fun j hj => ?_⟩, by omega⟩
      by_cases e : j = i
      · subst e; exact _h
      · exact hI j (by omega)
    · obtain ⟨j, hj, rfl⟩ := List.getElem_of_mem h2
      exact absurd (nth_eq hj) (hI j (by omega))
  · generalize dblT s w kind = t1 at *
    obtain ⟨x, e⟩ := t1
    dsimp only at h k1
    (refine fn_look s11_ok (by simp) (by intro k; simp only [go_sem, Nat.reduceEqDiff, ↓reduceIte, reduceCtorEq, Nat.reduceAdd, Nat.reduceMul, Int.reduceToNat, List.reduceReplicate, Nat.reduceLeDiff, Nat.reduceLT, Int.reduceLT, Int.reduceLE, Int.reduceEq]) fun S hS => cwp_sound _ _ _ _ ?_; simp (disch := omega) only [s11, go_sem, Nat.reduceEqDiff, ↓reduceIte, reduceCtorEq, Nat.reduceAdd, Nat.reduceMul, Int.reduceToNat, List.reduceReplicate, Nat.reduceLeDiff, Nat.reduceLT, Int.reduceLT, Int.reduceLE, Int.reduceEq])
    repeat' (first | (with_reducible refine in_seq ?_) | (with_reducible refine in_reg ?_) | (with_reducible refine in_block ?_) | (with_reducible refine in_cond ?_) | (with_reducible refine in_ret ?_) | (with_reducible refine in_skip ?_) | (simp (disch := omega) only [go_sem, Nat.reduceEqDiff, ↓reduceIte, reduceCtorEq, Nat.reduceAdd, Nat.reduceMul, Int.reduceToNat, List.reduceReplicate, Nat.reduceLeDiff, Nat.reduceLT, Int.reduceLT, Int.reduceLE, Int.reduceEq]) | (with_reducible refine giv_intro fun _h => ?_) | (with_reducible refine alt_intro ?_ (fun _h => ?_)) | ((first | with_reducible refine br_dec (fun _h => ?_) (fun _h => ?_) | with_reducible refine br_ndec (fun _h => ?_) (fun _h => ?_)) <;> (first | (exfalso; omega) | simp only [decide_eq_false _h] | simp only [decide_eq_true _h] | skip)) | ((first | with_reducible refine br_not (fun _h => ?_) (fun _h => ?_) | with_reducible refine br_var (fun _h => ?_) (fun _h => ?_)) <;> (try simp only [_h])) | ((with_reducible apply call (known_ok)); (focus (simp (disch := omega) only [go_sem, Nat.reduceEqDiff, ↓reduceIte, reduceCtorEq, Nat.reduceAdd, Nat.reduceMul, Int.reduceToNat, List.reduceReplicate, Nat.reduceLeDiff, Nat.reduceLT, Int.reduceLT, Int.reduceLE, Int.reduceEq]; (try rfl); done))) | ((with_reducible apply callR (over_ok s)); (focus (simp (disch := omega) only [go_sem, Nat.reduceEqDiff, ↓reduceIte, reduceCtorEq, Nat.reduceAdd, Nat.reduceMul, Int.reduceToNat, List.reduceReplicate, Nat.reduceLeDiff, Nat.reduceLT, Int.reduceLT, Int.reduceLE, Int.reduceEq]; (try rfl); done)); (rintro _ ⟨_, rfl⟩)) | ((with_reducible apply callR_lend (bytes_ok [w] (by simp))); (focus (simp (disch := omega) only [go_sem, Nat.reduceEqDiff, ↓reduceIte, reduceCtorEq, Nat.reduceAdd, Nat.reduceMul, Int.reduceToNat, List.reduceReplicate, Nat.reduceLeDiff, Nat.reduceLT, Int.reduceLT, Int.reduceLE, Int.reduceEq]; (try rfl); done)); (focus (rintro _ ⟨_, rfl⟩; rfl)); (rintro _ ⟨_, rfl⟩)) | ((with_reducible apply call (k1)); (focus (simp (disch := omega) only [go_sem, Nat.reduceEqDiff, ↓reduceIte, reduceCtorEq, Nat.reduceAdd, Nat.reduceMul, Int.reduceToNat, List.reduceReplicate, Nat.reduceLeDiff, Nat.reduceLT, Int.reduceLT, Int.reduceLE, Int.reduceEq]; (try rfl); done))) | fail)
end Go.Proofs.Ytpfoflhhbkjngaa.Ev

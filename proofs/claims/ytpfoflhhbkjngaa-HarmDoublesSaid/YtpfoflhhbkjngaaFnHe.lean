/- The law HarmCuts: the syllables joined are the word, one vowel in each. -/
import Derived.Test.YtpfoflhhbkjngaaFnHd
set_option linter.unusedVariables false
set_option linter.unusedSimpArgs false
namespace Go.Proofs.Ytpfoflhhbkjngaa.Ev
open Go Go.Proofs

def cntV (l : List Sound) (x : Str) : Nat := (l.filter fun r => decide (r.1 = x) && r.2.2.1).length
def countV (l : List Sound) (w : List Str) : Nat := (w.map (cntV l)).sum
theorem cntV_step (l : List Sound) (x : Str) {k : Nat} (h : k < l.length) : ((l.take (k + 1)).filter fun r => decide (r.1 = x) && r.2.2.1).length = ((l.take k).filter fun r => decide (r.1 = x) && r.2.2.1).length + (if (nth l k).1 = x ∧ (nth l k).2.2.1 = true then 1 else 0) := by
  rw [List.take_add_one, nth_get? h, List.filter_append, List.length_append]
  congr 1
  by_cases h1 : (nth l k).1 = x <;> cases h2 : (nth l k).2.2.1 <;> simp [List.filter_cons, h1, h2]
theorem filter_take_le (l : List Sound) (x : Str) (k : Nat) : ((l.take k).filter fun r => decide (r.1 = x) && r.2.2.1).length ≤ k := by
  have := List.length_filter_le (fun r : Sound => decide (r.1 = x) && r.2.2.1) (l.take k)
  have h2 : (l.take k).length ≤ k := by simp; omega
  omega
theorem countV_step (l : List Sound) {w : List Str} {i : Nat} (h : i < w.length) : countV l (w.take (i + 1)) = countV l (w.take i) + cntV l (nth w i) := by
  rw [countV, List.take_add_one, nth_get? h]; simp [countV]
theorem countV_app (l : List Sound) (a b : List Str) : countV l (a ++ b) = countV l a + countV l b := by simp [countV]
theorem countV_le (l : List Sound) : ∀ (w : List Str), countV l w ≤ l.length * w.length
  | [] => by simp [countV]
  | x :: w => by
    have h1 := countV_le l w
    have h2 : cntV l x ≤ l.length := List.length_filter_le _ _
    simp only [countV, List.map_cons, List.sum_cons, List.length_cons] at h1 ⊢
    rw [Nat.mul_add, Nat.mul_one]; omega
/-- ablaut/ablautlaw13.count: 2 parameters, 0 captured -/
def s29 : SC := .seq (.reg [⟨(some 2), .box 37 1 (.t 0), none⟩,
     ⟨(some 4), .mv (.c (.int .i64 0)), none⟩])
  (.seq (.reg [⟨(some 5), .mv (.c (.int .i64 0)), none⟩])
   (.seq (.seq (.reg [⟨(some 6), .mv (.c (.int .i64 0)), none⟩])
     (.block 0 (.loop (.seq (.seq (.reg [⟨(some 8), .mv (.t 6), none⟩,
            ⟨(some 9), .mv (.t 1), none⟩,
            ⟨(some 10), .lenL (.t 9), none⟩,
            ⟨(some 11), .bin .lss (.t 8) (.t 10), none⟩])
         (.cond (.t 11) (.skip) (.exit 0)))
        (.seq (.block 1 (.seq (.reg [⟨(some 7), .mv (.c (.int .i64 0)), none⟩])
           (.block 2 (.loop (.seq (.seq (.reg [⟨(some 14), .mv (.t 7), none⟩,
                  ⟨(some 15), .faddr 0 (.t 2), none⟩,
                  ⟨(some 16), .load none (.t 15), none⟩,
                  ⟨(some 17), .lenL (.t 16), none⟩,
                  ⟨(some 18), .bin .lss (.t 14) (.t 17), none⟩])
               (.cond (.t 18) (.skip) (.exit 2)))
              (.seq (.block 3 (.seq (.regD [⟨(some 21), .faddr 0 (.t 2), none⟩,
                    ⟨(some 22), .load none (.t 21), none⟩,
                    ⟨(some 23), .mv (.t 7), none⟩,
                    ⟨(some 24), .iaddr 4 (.t 22) (.t 23), none⟩,
                    ⟨(some 25), .faddr 0 (.t 24), none⟩,
                    ⟨(some 26), .load none (.t 25), none⟩,
                    ⟨(some 27), .mv (.t 1), none⟩,
                    ⟨(some 28), .mv (.t 6), none⟩,
                    ⟨(some 29), .iaddr 1 (.t 27) (.t 28), none⟩,
                    ⟨(some 30), .load none (.t 29), none⟩,
                    ⟨(some 31), .bin .eql (.t 26) (.t 30), none⟩,
                    ⟨(some 32), .mv (.t 31), none⟩,
                    ⟨(some 33), .faddr 0 (.t 2), some (32, true)⟩,
                    ⟨(some 34), .load none (.t 33), some (32, true)⟩,
                    ⟨(some 35), .mv (.t 7), some (32, true)⟩,
                    ⟨(some 36), .iaddr 4 (.t 34) (.t 35), some (32, true)⟩,
                    ⟨(some 37), .faddr 2 (.t 36), some (32, true)⟩,
                    ⟨(some 38), .load none (.t 37), some (32, true)⟩,
                    ⟨(some 39), .pick (.t 32) (.t 38) (.c (.bool false)), none⟩])
                 (.cond (.t 39) (.reg [⟨(some 40), .mv (.t 5), none⟩,
                     ⟨(some 41), .bin .add (.t 40) (.c (.int .i64 1)), none⟩,
                     ⟨(some 5), .mv (.t 41), none⟩]) (.skip))))
               (.reg [⟨(some 19), .mv (.t 7), none⟩,
                  ⟨(some 20), .bin .add (.t 19) (.c (.int .i64 1)), none⟩,
                  ⟨(some 7), .mv (.t 20), none⟩])))))))
         (.reg [⟨(some 12), .mv (.t 6), none⟩,
            ⟨(some 13), .bin .add (.t 12) (.c (.int .i64 1)), none⟩,
            ⟨(some 6), .mv (.t 13), none⟩]))))))
    (.seq (.reg [⟨(some 42), .mv (.t 5), none⟩,
        ⟨(some 4), .mv (.t 42), none⟩])
     (.ret))))
theorem s29_ok : lookF Try.prog 29 = some (s29, 43, [.tmp 4]) := by kernel_rfl
theorem count_ok (l : List Sound) (w : List Str) (hl : l.length ≤ 1000) (hw : w.length ≤ 1000) : Fn P 29 [sndA l, sl w] (intA (countV l w : Nat)) := by
  (refine fn_look s29_ok (by simp) (by intro k; simp only [go_sem, Nat.reduceEqDiff, ↓reduceIte, reduceCtorEq, Nat.reduceAdd, Nat.reduceMul, Int.reduceToNat, List.reduceReplicate, Nat.reduceLeDiff, Nat.reduceLT, Int.reduceLT, Int.reduceLE, Int.reduceEq]) fun S hS => cwp_sound _ _ _ _ ?_; simp (disch := omega) only [s29, go_sem, Nat.reduceEqDiff, ↓reduceIte, reduceCtorEq, Nat.reduceAdd, Nat.reduceMul, Int.reduceToNat, List.reduceReplicate, Nat.reduceLeDiff, Nat.reduceLT, Int.reduceLT, Int.reduceLE, Int.reduceEq])
  repeat' (first | (with_reducible refine in_seq ?_) | (with_reducible refine in_reg ?_) | (with_reducible refine in_block ?_) | (with_reducible refine in_cond ?_) | (with_reducible refine in_ret ?_) | (with_reducible refine in_skip ?_) | (simp (disch := omega) only [go_sem, Nat.reduceEqDiff, ↓reduceIte, reduceCtorEq, Nat.reduceAdd, Nat.reduceMul, Int.reduceToNat, List.reduceReplicate, Nat.reduceLeDiff, Nat.reduceLT, Int.reduceLT, Int.reduceLE, Int.reduceEq]) | (with_reducible refine giv_intro fun _h => ?_) | (with_reducible refine alt_intro ?_ (fun _h => ?_)) | ((first | with_reducible refine br_dec (fun _h => ?_) (fun _h => ?_) | with_reducible refine br_ndec (fun _h => ?_) (fun _h => ?_)) <;> (first | (exfalso; omega) | simp only [decide_eq_false _h] | simp only [decide_eq_true _h] | skip)) | ((first | with_reducible refine br_not (fun _h => ?_) (fun _h => ?_) | with_reducible refine br_var (fun _h => ?_) (fun _h => ?_)) <;> (try simp only [_h])) | fail)
  (refine loopC hS [1, 2] (by simp only [go_sem, Nat.reduceEqDiff, ↓reduceIte, reduceCtorEq, Nat.reduceAdd, Nat.reduceMul, Int.reduceToNat, List.reduceReplicate, Nat.reduceLeDiff, Nat.reduceLT, Int.reduceLT, Int.reduceLE, Int.reduceEq]; try rfl) (fun (i : Nat) => [(5, intA (countV l (w.take i) : Nat)), (6, intA i)]) (fun (i : Nat) => [some (.row 37 1 [sl l])]) (fun (i : Nat) => i ≤ w.length) (fun (i : Nat) => w.length - i) (0) ?h01 ?hn1 ?rd1; case hn1 => (intro s; first | rfl | (rcases s with ⟨_, _⟩; rfl) | (rcases s with ⟨_, _, _⟩; rfl) | (rcases s with ⟨_, _, _, _⟩; rfl) | (rcases s with ⟨_, _, _, _, _⟩; rfl)))
  · simp (disch := omega) only [go_sem, Nat.reduceEqDiff, ↓reduceIte, reduceCtorEq, Nat.reduceAdd, Nat.reduceMul, Int.reduceToNat, List.reduceReplicate, Nat.reduceLeDiff, Nat.reduceLT, Int.reduceLT, Int.reduceLE, Int.reduceEq]; simp [countV]
  rintro i hi
  replace hi : i ≤ w.length := hi
  have b1 := countV_le l (w.take i)
  have b2 : l.length * (w.take i).length ≤ 1000 * 1000 := Nat.mul_le_mul hl (by simp; omega)
  by_cases hil : i < w.length
  · repeat' (first | (with_reducible refine in_seq ?_) | (with_reducible refine in_reg ?_) | (with_reducible refine in_block ?_) | (with_reducible refine in_cond ?_) | (with_reducible refine in_ret ?_) | (with_reducible refine in_skip ?_) | (simp (disch := omega) only [go_sem, Nat.reduceEqDiff, ↓reduceIte, reduceCtorEq, Nat.reduceAdd, Nat.reduceMul, Int.reduceToNat, List.reduceReplicate, Nat.reduceLeDiff, Nat.reduceLT, Int.reduceLT, Int.reduceLE, Int.reduceEq]) | (with_reducible refine giv_intro fun _h => ?_) | (with_reducible refine alt_intro ?_ (fun _h => ?_)) | ((first | with_reducible refine br_dec (fun _h => ?_) (fun _h => ?_) | with_reducible refine br_ndec (fun _h => ?_) (fun _h => ?_)) <;> (first | (exfalso; omega) | simp only [decide_eq_false _h] | simp only [decide_eq_true _h] | skip)) | ((first | with_reducible refine br_not (fun _h => ?_) (fun _h => ?_) | with_reducible refine br_var (fun _h => ?_) (fun _h => ?_)) <;> (try simp only [_h])) | fail)
    (refine loopC hS [1, 2, 6] (by simp only [go_sem, Nat.reduceEqDiff, ↓reduceIte, reduceCtorEq, Nat.reduceAdd, Nat.reduceMul, Int.reduceToNat, List.reduceReplicate, Nat.reduceLeDiff, Nat.reduceLT, Int.reduceLT, Int.reduceLE, Int.reduceEq]; try rfl) (fun (k : Nat) => [(5, intA ((countV l (w.take i) + ((l.take k).filter fun r => decide (r.1 = nth w i) && r.2.2.1).length : Nat) : Int)), (7, intA k)]) (fun (k : Nat) => [some (.row 37 1 [sl l])]) (fun (k : Nat) => k ≤ l.length) (fun (k : Nat) => l.length - k) (0) ?h02 ?hn2 ?rd2; case hn2 => (intro s; first | rfl | (rcases s with ⟨_, _⟩; rfl) | (rcases s with ⟨_, _, _⟩; rfl) | (rcases s with ⟨_, _, _, _⟩; rfl) | (rcases s with ⟨_, _, _, _, _⟩; rfl)))
    · simp (disch := omega) only [go_sem, Nat.reduceEqDiff, ↓reduceIte, reduceCtorEq, Nat.reduceAdd, Nat.reduceMul, Int.reduceToNat, List.reduceReplicate, Nat.reduceLeDiff, Nat.reduceLT, Int.reduceLT, Int.reduceLE, Int.reduceEq]; simp
    · rintro k hk
      replace hk : k ≤ l.length := hk
      have b3 := filter_take_le l (nth w i) k
      by_cases hkl : k < l.length
      · have st := cntV_step l (nth w i) hkl
        repeat' (first | (with_reducible refine in_seq ?_) | (with_reducible refine in_reg ?_) | (with_reducible refine in_block ?_) | (with_reducible refine in_cond ?_) | (with_reducible refine in_ret ?_) | (with_reducible refine in_skip ?_) | (simp (disch := omega) only [go_sem, Nat.reduceEqDiff, ↓reduceIte, reduceCtorEq, Nat.reduceAdd, Nat.reduceMul, Int.reduceToNat, List.reduceReplicate, Nat.reduceLeDiff, Nat.reduceLT, Int.reduceLT, Int.reduceLE, Int.reduceEq]) | (with_reducible refine giv_intro fun _h => ?_) | (with_reducible refine alt_intro ?_ (fun _h => ?_)) | ((first | with_reducible refine br_dec (fun _h => ?_) (fun _h => ?_) | with_reducible refine br_ndec (fun _h => ?_) (fun _h => ?_)) <;> (first | (exfalso; omega) | simp only [decide_eq_false _h] | simp only [decide_eq_true _h] | skip)) | ((first | with_reducible refine br_not (fun _h => ?_) (fun _h => ?_) | with_reducible refine br_var (fun _h => ?_) (fun _h => ?_)) <;> (try simp only [_h])) | fail)
        all_goals
          refine ⟨k + 1, ⟨by omega, by omega⟩, ?_, by omega⟩
          rw [st]
          first
            | (rw [if_pos ⟨by assumption, by assumption⟩]; omega)
            | (rw [if_neg (fun h => by have := h.2; simp_all)]; omega)
            | (rw [if_neg (fun h => absurd h.1 (by assumption))]; omega)
      · have hz : l.take k = l := List.take_of_length_le (by omega)
        repeat' (first | (with_reducible refine in_seq ?_) | (with_reducible refine in_reg ?_) | (with_reducible refine in_block ?_) | (with_reducible refine in_cond ?_) | (with_reducible refine in_ret ?_) | (with_reducible refine in_skip ?_) | (simp (disch := omega) only [go_sem, Nat.reduceEqDiff, ↓reduceIte, reduceCtorEq, Nat.reduceAdd, Nat.reduceMul, Int.reduceToNat, List.reduceReplicate, Nat.reduceLeDiff, Nat.reduceLT, Int.reduceLT, Int.reduceLE, Int.reduceEq]) | (with_reducible refine giv_intro fun _h => ?_) | (with_reducible refine alt_intro ?_ (fun _h => ?_)) | ((first | with_reducible refine br_dec (fun _h => ?_) (fun _h => ?_) | with_reducible refine br_ndec (fun _h => ?_) (fun _h => ?_)) <;> (first | (exfalso; omega) | simp only [decide_eq_false _h] | simp only [decide_eq_true _h] | skip)) | ((first | with_reducible refine br_not (fun _h => ?_) (fun _h => ?_) | with_reducible refine br_var (fun _h => ?_) (fun _h => ?_)) <;> (try simp only [_h])) | fail)
        refine ⟨i + 1, ⟨by omega, by omega⟩, ?_, by omega⟩
        rw [countV_step l hil, hz]; rfl
  · repeat' (first | (with_reducible refine in_seq ?_) | (with_reducible refine in_reg ?_) | (with_reducible refine in_block ?_) | (with_reducible refine in_cond ?_) | (with_reducible refine in_ret ?_) | (with_reducible refine in_skip ?_) | (simp (disch := omega) only [go_sem, Nat.reduceEqDiff, ↓reduceIte, reduceCtorEq, Nat.reduceAdd, Nat.reduceMul, Int.reduceToNat, List.reduceReplicate, Nat.reduceLeDiff, Nat.reduceLT, Int.reduceLT, Int.reduceLE, Int.reduceEq]) | (with_reducible refine giv_intro fun _h => ?_) | (with_reducible refine alt_intro ?_ (fun _h => ?_)) | ((first | with_reducible refine br_dec (fun _h => ?_) (fun _h => ?_) | with_reducible refine br_ndec (fun _h => ?_) (fun _h => ?_)) <;> (first | (exfalso; omega) | simp only [decide_eq_false _h] | simp only [decide_eq_true _h] | skip)) | ((first | with_reducible refine br_not (fun _h => ?_) (fun _h => ?_) | with_reducible refine br_var (fun _h => ?_) (fun _h => ?_)) <;> (try simp only [_h])) | fail)
    rw [List.take_of_length_le (by omega)]

/-- How many vowels stand from a on ahead of b. -/
def vc (l : List Sound) (w : List Str) (a b : Nat) : Nat := countV l ((w.take b).drop a)
theorem vc_split (l : List Sound) (w : List Str) {a b c : Nat} (h1 : a ≤ b) (h2 : b ≤ c) : vc l w a c = vc l w a b + vc l w b c := by
  rw [vc, vc, vc, ← countV_app]
  congr 1
  have e : w.take b = (w.take c).take b := by rw [List.take_take]; congr 1; omega
  have h : (w.take c).drop a = ((w.take c).take b).drop a ++ ((w.take c).drop b) := by
    have := List.take_append_drop (b - a) ((w.take c).drop a)
    rw [List.drop_drop, show a + (b - a) = b by omega] at this
    rw [← this, List.drop_take (l := w.take c)]
  rw [e]; exact h
theorem vc_one (l : List Sound) (w : List Str) {i : Nat} (h : i < w.length) : vc l w i (i + 1) = cntV l (nth w i) := by
  rw [vc, List.take_add_one, nth_get? h, List.drop_append, List.drop_eq_nil_of_le (by simp; omega)]
  have e : i - min i w.length = 0 := by omega
  simp [countV, e]
theorem cntV_of {l : List Sound} (h : sndErr l = 0) (x : Str) : cntV l x = if vowR l x = true then 1 else 0 := by
  have hd := snd_distinct h
  clear h
  unfold vowR rowR cntV
  induction l with
  | nil => rfl
  | cons r l ih =>
    obtain ⟨h1, h2⟩ := List.pairwise_cons.1 hd
    have i := ih h2
    by_cases e : r.1 = x
    · have hn : l.filter (fun r => decide (r.1 = x) && r.2.2.1) = [] := by
        rw [List.filter_eq_nil_iff]; intro q hq; simp; intro e2; exact absurd (e.trans e2.symm) (h1 q hq)
      cases hv : r.2.2.1 <;> simp [List.filter_cons, List.find?_cons, e, hv, hn]
    · rw [List.filter_cons, List.find?_cons, decide_eq_false e]
      simpa using i
section
variable {l : List Sound} {w : List Str} (h : sndErr l = 0)
include h
theorem pieces_one : ∀ (n i : Nat) (last : Int) (at_ : Nat), i + n = w.length → 0 ≤ last → (at_ : Int) ≤ last → last < i → vowR l (nth w last.toNat) = true → vc l w at_ i = 1 →
    ∀ p ∈ pieces w at_ (cutsF (vowR l) (louR l) w i last n), countV l p = 1
  | 0, i, last, a, h1, h2, h3, h4, h5, h6, p, hp => by
    simp only [cutsF, pieces, List.mem_singleton] at hp
    subst hp
    rw [vc, List.take_of_length_le (by omega)] at h6
    exact h6
  | n + 1, i, last, a, h1, h2, h3, h4, h5, h6, p, hp => by
    have hi : i < w.length := by omega
    have e1 := vc_one l w hi
    rw [cntV_of h] at e1
    have e2 := vc_split l w (a := a) (b := i) (c := i + 1) (by omega) (by omega)
    simp only [cutsF] at hp
    split at hp
    · rename_i hv
      rw [if_pos hv] at e1
      have hr := cutF_range (louR l) w h4
      have s1 := vc_split l w (a := a) (b := cutF (louR l) w last i) (c := i) (by omega) (by omega)
      have s2 := vc_split l w (a := a) (b := last.toNat) (c := cutF (louR l) w last i) (by omega) (by omega)
      have s3 := vc_split l w (a := last.toNat) (b := last.toNat + 1) (c := cutF (louR l) w last i) (by omega) (by omega)
      have s4 := vc_one l w (i := last.toNat) (by omega)
      rw [cntV_of h, if_pos h5] at s4
      have s5 := vc_split l w (a := cutF (louR l) w last i) (b := i) (c := i + 1) (by omega) (by omega)
      simp only [pieces, List.mem_cons] at hp
      rcases hp with rfl | hp
      · show vc l w a (cutF (louR l) w last i) = 1
        omega
      · exact pieces_one n (i + 1) i _ (by omega) (by omega) (by omega) (by omega) (by simpa using hv) (by omega) p hp
    · rename_i hv
      rw [if_neg hv] at e1
      exact pieces_one n (i + 1) last a (by omega) h2 h3 (by omega) h5 (by omega) p hp
theorem pieces_zero : ∀ (n i : Nat), i + n = w.length → vc l w 0 i = 0 →
    (∀ p ∈ pieces w 0 (cutsF (vowR l) (louR l) w i (-1) n), countV l p = 1) ∨ (pieces w 0 (cutsF (vowR l) (louR l) w i (-1) n) = [w] ∧ countV l w = 0)
  | 0, i, h1, h2 => by
    right
    rw [vc, List.take_of_length_le (by omega)] at h2
    exact ⟨by simp [cutsF, pieces], h2⟩
  | n + 1, i, h1, h2 => by
    have hi : i < w.length := by omega
    have e1 := vc_one l w hi
    rw [cntV_of h] at e1
    have e2 := vc_split l w (a := 0) (b := i) (c := i + 1) (by omega) (by omega)
    simp only [cutsF]
    split
    · rename_i hv
      rw [if_pos hv] at e1
      rw [if_neg (by omega)]
      left
      exact pieces_one h n (i + 1) i 0 (by omega) (by omega) (by omega) (by omega) (by simpa using hv) (by omega)
    · rename_i hv
      rw [if_neg hv] at e1
      exact pieces_zero n (i + 1) (by omega) (by omega)
end
theorem pieces_flat (w : List Str) : ∀ (cs : List Nat) (a : Nat), okC w a cs → (pieces w a cs).flatten = w.drop a
  | [], a, _ => by simp [pieces]
  | c :: cs, a, h => by
    obtain ⟨h1, h2, h3⟩ := h
    rw [pieces, List.flatten_cons, pieces_flat w cs c h3]
    have := List.take_append_drop (c - a) (w.drop a)
    rw [List.drop_drop, show a + (c - a) = c by omega] at this
    rw [List.drop_take]; exact this
theorem syl_facts {l : List Sound} {w : List Str} (h : sndErr l = 0) : (sylL (vowR l) (louR l) w).flatten = w ∧ ((∀ p ∈ sylL (vowR l) (louR l) w, countV l p = 1) ∨ (sylL (vowR l) (louR l) w = [w] ∧ 0 < w.length ∧ countV l w = 0)) := by
  unfold sylL
  by_cases h0 : w.length = 0
  · rw [if_pos h0]
    exact ⟨by rw [List.eq_nil_of_length_eq_zero h0]; rfl, .inl (by simp)⟩
  · rw [if_neg h0]
    refine ⟨?_, ?_⟩
    · rw [pieces_flat w _ 0 (cuts_ok (vowR l) (louR l) w w.length 0 (-1) 0 (by omega) (by omega) (by omega) (by omega) (by omega))]; rfl
    · rcases pieces_zero h (w := w) w.length 0 (by omega) (by simp [vc, countV]) with h1 | h1
      · exact .inl h1
      · exact .inr ⟨h1.1, by omega, h1.2⟩
end Go.Proofs.Ytpfoflhhbkjngaa.Ev

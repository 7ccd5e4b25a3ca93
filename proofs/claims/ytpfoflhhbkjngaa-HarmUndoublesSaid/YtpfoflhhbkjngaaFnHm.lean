/- A word put into another one: Infix by both; the law HarmInfixes. -/
import Derived.Test.YtpfoflhhbkjngaaFnHj
set_option linter.unusedVariables false
set_option linter.unusedSimpArgs false
namespace Go.Proofs.Ytpfoflhhbkjngaa.Ev
open Go Go.Proofs

def idxP (p : Str → Bool) (l : List Str) : Int := match l.findIdx? p with | some i => (i : Int) | none => -1
theorem idxV_ok (m : List (Str × Sound)) (l : List Str) : Fn P 74 [sl l, .bnd 73 [romA m]] (intA (idxP (vowM m) l)) := by
  unfold idxP
  (refine fn_look s74_ok (by simp) (by intro k; simp only [go_sem, Nat.reduceEqDiff, ↓reduceIte, reduceCtorEq, Nat.reduceAdd, Nat.reduceMul, Int.reduceToNat, List.reduceReplicate, Nat.reduceLeDiff, Nat.reduceLT, Int.reduceLT, Int.reduceLE, Int.reduceEq]) fun S hS => cwp_sound _ _ _ _ ?_; simp (disch := omega) only [s74, go_sem, Nat.reduceEqDiff, ↓reduceIte, reduceCtorEq, Nat.reduceAdd, Nat.reduceMul, Int.reduceToNat, List.reduceReplicate, Nat.reduceLeDiff, Nat.reduceLT, Int.reduceLT, Int.reduceLE, Int.reduceEq])
  repeat' (first | (with_reducible refine in_seq ?_) | (with_reducible refine in_reg ?_) | (with_reducible refine in_block ?_) | (with_reducible refine in_cond ?_) | (with_reducible refine in_ret ?_) | (with_reducible refine in_skip ?_) | (simp (disch := omega) only [go_sem, Nat.reduceEqDiff, ↓reduceIte, reduceCtorEq, Nat.reduceAdd, Nat.reduceMul, Int.reduceToNat, List.reduceReplicate, Nat.reduceLeDiff, Nat.reduceLT, Int.reduceLT, Int.reduceLE, Int.reduceEq]) | (with_reducible refine giv_intro fun _h => ?_) | (with_reducible refine alt_intro ?_ (fun _h => ?_)) | ((first | with_reducible refine br_dec (fun _h => ?_) (fun _h => ?_) | with_reducible refine br_ndec (fun _h => ?_) (fun _h => ?_)) <;> (first | (exfalso; omega) | simp only [decide_eq_false _h] | simp only [decide_eq_true _h] | skip)) | ((first | with_reducible refine br_not (fun _h => ?_) (fun _h => ?_) | with_reducible refine br_var (fun _h => ?_) (fun _h => ?_)) <;> (try simp only [_h])) | fail)
  (refine loopC hS [0, 1, 7] (by simp only [go_sem, Nat.reduceEqDiff, ↓reduceIte, reduceCtorEq, Nat.reduceAdd, Nat.reduceMul, Int.reduceToNat, List.reduceReplicate, Nat.reduceLeDiff, Nat.reduceLT, Int.reduceLT, Int.reduceLE, Int.reduceEq]; try rfl) (fun (i : Nat) => [(8, intA i)]) (fun (i : Nat) => []) (fun (i : Nat) => i ≤ l.length ∧ l.findIdx? (vowM m) = ((l.drop i).findIdx? (vowM m)).map (· + i)) (fun (i : Nat) => l.length - i) (0) ?h01 ?hn1 ?rd1; case hn1 => (intro s; first | rfl | (rcases s with ⟨_, _⟩; rfl) | (rcases s with ⟨_, _, _⟩; rfl) | (rcases s with ⟨_, _, _, _⟩; rfl) | (rcases s with ⟨_, _, _, _, _⟩; rfl)))
  · simp (disch := omega) only [go_sem, Nat.reduceEqDiff, ↓reduceIte, reduceCtorEq, Nat.reduceAdd, Nat.reduceMul, Int.reduceToNat, List.reduceReplicate, Nat.reduceLeDiff, Nat.reduceLT, Int.reduceLT, Int.reduceLE, Int.reduceEq]; simp
  rintro i ⟨hi, hI⟩
  replace hi : i ≤ l.length := hi
  replace hI : l.findIdx? (vowM m) = ((l.drop i).findIdx? (vowM m)).map (· + i) := hI
  repeat' (first | (with_reducible refine in_seq ?_) | (with_reducible refine in_reg ?_) | (with_reducible refine in_block ?_) | (with_reducible refine in_cond ?_) | (with_reducible refine in_ret ?_) | (with_reducible refine in_skip ?_) | (simp (disch := omega) only [go_sem, Nat.reduceEqDiff, ↓reduceIte, reduceCtorEq, Nat.reduceAdd, Nat.reduceMul, Int.reduceToNat, List.reduceReplicate, Nat.reduceLeDiff, Nat.reduceLT, Int.reduceLT, Int.reduceLE, Int.reduceEq]) | (with_reducible refine giv_intro fun _h => ?_) | (with_reducible refine alt_intro ?_ (fun _h => ?_)) | ((first | with_reducible refine br_dec (fun _h => ?_) (fun _h => ?_) | with_reducible refine br_ndec (fun _h => ?_) (fun _h => ?_)) <;> (first | (exfalso; omega) | simp only [decide_eq_false _h] | simp only [decide_eq_true _h] | skip)) | ((first | with_reducible refine br_not (fun _h => ?_) (fun _h => ?_) | with_reducible refine br_var (fun _h => ?_) (fun _h => ?_)) <;> (try simp only [_h])) | ((with_reducible apply call (vowel_ok m _)); (focus (simp (disch := omega) only [go_sem, Nat.reduceEqDiff, ↓reduceIte, reduceCtorEq, Nat.reduceAdd, Nat.reduceMul, Int.reduceToNat, List.reduceReplicate, Nat.reduceLeDiff, Nat.reduceLT, Int.reduceLT, Int.reduceLE, Int.reduceEq]; (try rfl); done))) | fail)
  · rw [hI, nth_drop (by assumption)]
    simp_all [List.findIdx?_cons]
  · refine ⟨i + 1, ⟨by omega, by omega, ?_⟩, by omega⟩
    rw [hI, nth_drop (by assumption), List.findIdx?_cons]
    simp_all [Function.comp_def, Nat.add_comm, Nat.add_left_comm]
  · rw [hI, List.drop_eq_nil_of_le (by omega)]; rfl

/-- The place of the first vowel among i, or of the last one. -/
def posI (v : Str → Bool) (w : List Str) (k : Int) : Nat → Int
  | 0 => -1
  | i + 1 => if v (nth w i) = true ∧ (posI v w k i < 0 ∨ 2 ≤ k) then (i : Int) else posI v w k i
theorem posI_range (v : Str → Bool) (w : List Str) (k : Int) : ∀ i : Nat, -1 ≤ posI v w k i ∧ posI v w k i < i
  | 0 => by simp [posI]
  | i + 1 => by
    have := posI_range v w k i
    simp only [posI]; split <;> omega
theorem posI_none (v : Str → Bool) (w : List Str) (k : Int) : ∀ i : Nat, posI v w k i < 0 → ∀ j, j < i → v (nth w j) = false
  | 0, _, j, hj => by omega
  | i + 1, h, j, hj => by
    simp only [posI] at h
    split at h
    · omega
    · rename_i h1
      by_cases e : j = i
      · subst e
        rw [← Bool.not_eq_true]; intro h2
        exact h1 ⟨h2, .inl h⟩
      · exact posI_none v w k i h j (by omega)
theorem idxP_take (v : Str → Bool) (w : List Str) {k : Int} (hk : k < 2) : ∀ i, i ≤ w.length → idxP v (w.take i) = posI v w k i
  | 0, _ => by simp [idxP, posI]
  | i + 1, hi => by
    have ih := idxP_take v w hk i (by omega)
    have hr := posI_range v w k i
    rw [List.take_add_one, nth_get? (l := w) (i := i) (show i < w.length by omega)]
    simp only [posI, Option.toList_some]
    unfold idxP at ih ⊢
    rw [List.findIdx?_append]
    cases hf : (w.take i).findIdx? v with
    | some a =>
      rw [hf] at ih
      simp only [Option.some_or]
      have ih' : (a : Int) = posI v w k i := ih
      rw [if_neg (fun h => by have := h.2; omega)]; exact ih
    | none =>
      rw [hf] at ih
      have ih' : (-1 : Int) = posI v w k i := ih
      simp only [Option.none_or, List.findIdx?_cons, List.findIdx?_nil]
      have hl : (w.take i).length = i := by simp; omega
      cases hv : v (nth w i) with
      | true => simp [hl]; intro _; omega
      | false => rw [if_neg (by simp)]; exact ih
theorem idxP_first (v : Str → Bool) (w : List Str) {k : Int} (hk : k < 2) : idxP v w = posI v w k w.length := by
  have := idxP_take v w hk w.length (Nat.le_refl _)
  rwa [List.take_length] at this
theorem idxP_none (v : Str → Bool) (w : List Str) (k : Int) (h : posI v w k w.length < 0) : idxP v w = -1 := by
  have h1 := posI_none v w k w.length h
  unfold idxP
  have : w.findIdx? v = none := List.findIdx?_eq_none_iff.2 fun x hx => by
    obtain ⟨j, hj, rfl⟩ := List.getElem_of_mem hx
    have := h1 j hj
    rwa [nth_eq hj] at this
  rw [this]
def atI (v : Str → Bool) (w : List Str) (k : Int) : Int := if posI v w k w.length < 0 then w.length else posI v w k w.length + k.tmod 2
/-- Where the last vowel among i is; where the first of all is, if none is there. -/
def atK (v : Str → Bool) (w : List Str) (k : Int) (i : Nat) : Int := if posI v w k i < 0 then idxP v w else posI v w k i
/-- Where a text is put in, by the vowels among i. -/
def atR (v : Str → Bool) (w : List Str) (k : Int) (i : Nat) : Int := if posI v w k i < 0 then (w.length : Int) else posI v w k i + k.tmod 2
def thereR (v : Str → Bool) (w : List Str) (k : Int) (i : Nat) : Bool := decide (0 ≤ posI v w k i)
theorem atR_yes {v : Str → Bool} {w : List Str} {k : Int} {i : Nat} (h : v (nth w i) = true) (h2 : posI v w k i < 0 ∨ 2 ≤ k) : atR v w k (i + 1) = i + k.tmod 2 ∧ thereR v w k (i + 1) = true := by
  have hst : posI v w k (i + 1) = (i : Int) := by rw [posI, if_pos ⟨h, h2⟩]
  rw [atR, thereR, hst, if_neg (by omega)]; exact ⟨rfl, decide_eq_true (by omega)⟩
theorem atR_no {v : Str → Bool} {w : List Str} {k : Int} {i : Nat} (h : ¬(v (nth w i) = true ∧ (posI v w k i < 0 ∨ 2 ≤ k))) : atR v w k (i + 1) = atR v w k i ∧ thereR v w k (i + 1) = thereR v w k i := by
  have hst : posI v w k (i + 1) = posI v w k i := by rw [posI, if_neg h]
  rw [atR, thereR, atR, thereR, hst]; exact ⟨rfl, rfl⟩
def infE0 (s : List Sound) (w x : List Str) : Int := firstE [sndErr s, wordsErr [w, x]]
def infL (s : List Sound) (w x : List Str) (k : Int) : List Str := turnL w (atI (vowR s) w k).toNat (atI (vowR s) w k).toNat x
def infT (s : List Sound) (w x : List Str) (k : Int) : List Str × Int := if infE0 s w x ≠ 0 then ([], infE0 s w x) else if k < 0 ∨ 3 < k then ([], 1) else (heldV (infL s w x k), heldE (infL s w x k))
theorem tmod2 (k : Int) (h0 : 0 ≤ k) (h : k ≤ 3) : 0 ≤ k.tmod 2 ∧ k.tmod 2 ≤ 1 := by
  have : k = 0 ∨ k = 1 ∨ k = 2 ∨ k = 3 := by omega
  rcases this with rfl | rfl | rfl | rfl <;> decide
abbrev duo (t : List Str × Int) : AV := .tup [sl t.1, intA t.2]
/-- ablaut/harm.Infix: 4 parameters, 0 captured -/
def s33 : SC := .seq (.reg [⟨(some 4), .box 37 1 (.t 0), none⟩,
     ⟨(some 8), .mv (.c (.slice none 0 0)), none⟩,
     ⟨(some 9), .mv (.c (.int .i64 0)), none⟩])
  (.seq (.seq (.reg [⟨(some 15), .load (some 1) (.t 4), none⟩,
       ⟨(some 16), .call (.f 51) [(.t 15)], none⟩,
       ⟨(some 17), .mv (.t 1), none⟩,
       ⟨(some 18), .mv (.t 2), none⟩,
       ⟨(some 19), .buildSl 22 1 2 [(.slice none 0 0)] [(0, 1, (.t 17)), (1, 1, (.t 18))], none⟩,
       ⟨(some 20), .call (.f 53) [(.t 19)], none⟩,
       ⟨(some 21), .buildSl 25 1 2 [(.int .i64 0)] [(0, 1, (.t 16)), (1, 1, (.t 20))], none⟩,
       ⟨(some 22), .call (.f 62) [(.t 21)], none⟩,
       ⟨(some 10), .mv (.t 22), none⟩])
    (.seq (.reg [⟨(some 23), .mv (.t 10), none⟩,
        ⟨(some 24), .bin .neq (.t 23) (.c (.int .i64 0)), none⟩])
     (.cond (.t 24) (.seq (.reg [⟨(some 25), .mv (.t 10), none⟩,
          ⟨(some 8), .mv (.c (.slice none 0 0)), none⟩,
          ⟨(some 9), .mv (.t 25), none⟩])
       (.ret)) (.skip))))
   (.seq (.seq (.reg [⟨(some 26), .mv (.t 3), none⟩,
        ⟨(some 27), .bin .lss (.t 26) (.c (.int .i64 0)), none⟩,
        ⟨(some 28), .mv (.t 27), none⟩,
        ⟨(some 29), .mv (.t 3), some (28, false)⟩,
        ⟨(some 30), .bin .gtr (.t 29) (.c (.int .i64 3)), some (28, false)⟩,
        ⟨(some 31), .pick (.t 28) (.c (.bool true)) (.t 30), none⟩])
     (.cond (.t 31) (.seq (.reg [⟨(some 8), .mv (.c (.slice none 0 0)), none⟩,
          ⟨(some 9), .mv (.c (.int .i64 1)), none⟩])
       (.ret)) (.skip)))
    (.seq (.reg [⟨(some 32), .load (some 1) (.t 4), none⟩,
        ⟨(some 33), .call (.f 63) [(.t 32)], none⟩,
        ⟨(some 34), .mkbnd 73 [(.t 33)], none⟩,
        ⟨(some 11), .mv (.t 34), none⟩])
     (.seq (.reg [⟨(some 35), .mv (.t 1), none⟩,
         ⟨(some 36), .mv (.t 11), none⟩,
         ⟨(some 37), .call (.f 74) [(.t 35), (.t 36)], none⟩,
         ⟨(some 12), .mv (.t 37), none⟩])
      (.seq (.seq (.reg [⟨(some 38), .mv (.t 3), none⟩,
           ⟨(some 39), .bin .gtr (.t 38) (.c (.int .i64 1)), none⟩])
        (.cond (.t 39) (.seq (.reg [⟨(some 40), .mv (.t 1), none⟩,
             ⟨(some 41), .lenL (.t 40), none⟩,
             ⟨(some 42), .mv (.c (.int .i64 0)), none⟩])
          (.block 0 (.loop (.seq (.reg [⟨(some 43), .bin .lss (.t 42) (.t 41), none⟩])
             (.seq (.cond (.t 43) (.skip) (.exit 0))
              (.seq (.block 1 (.seq (.reg [⟨(some 44), .mv (.t 42), none⟩,
                    ⟨(some 45), .iaddr 1 (.t 40) (.t 42), none⟩,
                    ⟨(some 46), .load none (.t 45), none⟩,
                    ⟨(some 13), .mv (.t 44), none⟩,
                    ⟨(some 14), .mv (.t 46), none⟩])
                 (.seq (.reg [⟨(some 47), .mv (.t 11), none⟩,
                     ⟨(some 48), .mv (.t 14), none⟩,
                     ⟨(some 49), .call (.t 47) [(.t 48)], none⟩])
                  (.cond (.t 49) (.reg [⟨(some 50), .mv (.t 13), none⟩,
                      ⟨(some 12), .mv (.t 50), none⟩]) (.skip)))))
               (.reg [⟨(some 51), .bin .add (.t 42) (.c (.int .i64 1)), none⟩,
                  ⟨(some 42), .mv (.t 51), none⟩]))))))) (.skip)))
       (.seq (.seq (.reg [⟨(some 52), .mv (.t 12), none⟩,
            ⟨(some 53), .bin .lss (.t 52) (.c (.int .i64 0)), none⟩])
         (.cond (.t 53) (.reg [⟨(some 54), .mv (.t 1), none⟩,
             ⟨(some 55), .lenL (.t 54), none⟩,
             ⟨(some 12), .mv (.t 55), none⟩]) (.seq (.reg [⟨(some 56), .mv (.t 3), none⟩,
              ⟨(some 57), .bin .rem (.t 56) (.c (.int .i64 2)), none⟩,
              ⟨(some 58), .bin .eql (.t 57) (.c (.int .i64 1)), none⟩])
           (.cond (.t 58) (.reg [⟨(some 59), .mv (.t 12), none⟩,
               ⟨(some 60), .bin .add (.t 59) (.c (.int .i64 1)), none⟩,
               ⟨(some 12), .mv (.t 60), none⟩]) (.skip)))))
        (.seq (.regD [⟨(some 61), .mv (.t 1), none⟩,
            ⟨(some 62), .mv (.t 12), none⟩,
            ⟨(some 63), .sl 1 (.t 61) none (some (.t 62)), none⟩,
            ⟨(some 64), .mv (.t 2), none⟩,
            ⟨(some 65), .mv (.t 1), none⟩,
            ⟨(some 66), .mv (.t 12), none⟩,
            ⟨(some 67), .sl 1 (.t 65) (some (.t 66)) none, none⟩,
            ⟨(some 68), .buildSl 22 1 3 [(.slice none 0 0)] [(0, 1, (.t 63)), (1, 1, (.t 64)), (2, 1, (.t 67))], none⟩,
            ⟨(some 69), .call (.f 75) [(.t 68)], none⟩,
            ⟨(some 70), .call (.f 68) [(.t 69)], none⟩,
            ⟨(some 71), .ext (.t 70) 0, none⟩,
            ⟨(some 72), .ext (.t 70) 1, none⟩,
            ⟨(some 8), .mv (.t 71), none⟩,
            ⟨(some 9), .mv (.t 72), none⟩])
         (.ret))))))))
theorem s33_ok : lookF Try.prog 33 = some (s33, 73, [.tmp 8, .tmp 9]) := by kernel_rfl
set_option maxHeartbeats 2000000 in
theorem hInfix_ok (s : List Sound) (w x : List Str) (k : Int) : Fn P 33 [sndA s, sl w, sl x, intA k] (duo (infT s w x k)) := by
  have c1 := hValidate_ok s
  have c3 := words_ok [w, x]
  have c4 := first_ok [sndErr s, wordsErr [w, x]]
  by_cases h : infE0 s w x = 0
  · obtain ⟨h1, h3⟩ := two_zero h
    have hws := wordsErr_two.1 h3
    have hw := wordErr_len hws.1
    have hx := wordErr_len hws.2
    rw [show firstE [sndErr s, wordsErr [w, x]] = 0 from h] at c4
    by_cases hk : k < 0 ∨ 3 < k
    · rw [infT, if_neg (by omega), if_pos hk]
      (refine fn_look s33_ok (by simp) (by intro k; simp only [go_sem, Nat.reduceEqDiff, ↓reduceIte, reduceCtorEq, Nat.reduceAdd, Nat.reduceMul, Int.reduceToNat, List.reduceReplicate, Nat.reduceLeDiff, Nat.reduceLT, Int.reduceLT, Int.reduceLE, Int.reduceEq]) fun S hS => cwp_sound _ _ _ _ ?_; simp (disch := omega) only [s33, go_sem, Nat.reduceEqDiff, ↓reduceIte, reduceCtorEq, Nat.reduceAdd, Nat.reduceMul, Int.reduceToNat, List.reduceReplicate, Nat.reduceLeDiff, Nat.reduceLT, Int.reduceLT, Int.reduceLE, Int.reduceEq])
      repeat' (first | (with_reducible refine in_seq ?_) | (with_reducible refine in_reg ?_) | (with_reducible refine in_block ?_) | (with_reducible refine in_cond ?_) | (with_reducible refine in_ret ?_) | (with_reducible refine in_skip ?_) | (simp (disch := omega) only [go_sem, Nat.reduceEqDiff, ↓reduceIte, reduceCtorEq, Nat.reduceAdd, Nat.reduceMul, Int.reduceToNat, List.reduceReplicate, Nat.reduceLeDiff, Nat.reduceLT, Int.reduceLT, Int.reduceLE, Int.reduceEq]) | (with_reducible refine giv_intro fun _h => ?_) | (with_reducible refine alt_intro ?_ (fun _h => ?_)) | ((first | with_reducible refine br_dec (fun _h => ?_) (fun _h => ?_) | with_reducible refine br_ndec (fun _h => ?_) (fun _h => ?_)) <;> (first | (exfalso; omega) | simp only [decide_eq_false _h] | simp only [decide_eq_true _h] | skip)) | ((first | with_reducible refine br_not (fun _h => ?_) (fun _h => ?_) | with_reducible refine br_var (fun _h => ?_) (fun _h => ?_)) <;> (try simp only [_h])) | ((with_reducible apply call (c1)); (focus (simp (disch := omega) only [go_sem, Nat.reduceEqDiff, ↓reduceIte, reduceCtorEq, Nat.reduceAdd, Nat.reduceMul, Int.reduceToNat, List.reduceReplicate, Nat.reduceLeDiff, Nat.reduceLT, Int.reduceLT, Int.reduceLE, Int.reduceEq]; (try rfl); done))) | ((with_reducible apply call_lend (c3)); (focus (simp (disch := omega) only [go_sem, Nat.reduceEqDiff, ↓reduceIte, reduceCtorEq, Nat.reduceAdd, Nat.reduceMul, Int.reduceToNat, List.reduceReplicate, Nat.reduceLeDiff, Nat.reduceLT, Int.reduceLT, Int.reduceLE, Int.reduceEq]; (try rfl); done)); (focus rfl)) | ((with_reducible apply call_lend (c4)); (focus (simp (disch := omega) only [go_sem, Nat.reduceEqDiff, ↓reduceIte, reduceCtorEq, Nat.reduceAdd, Nat.reduceMul, Int.reduceToNat, List.reduceReplicate, Nat.reduceLeDiff, Nat.reduceLT, Int.reduceLT, Int.reduceLE, Int.reduceEq]; (try rfl); done)); (focus rfl)) | fail)
      all_goals rfl
    · rw [infT, if_neg (by omega), if_neg hk]
      have ht := tmod2 k (by omega) (by omega)
      have hr := posI_range (vowR s) w k w.length
      have c5 := idxV_ok (ofM s) w
      rw [vowM_of h1] at c5
      have hat : atI (vowR s) w k = if posI (vowR s) w k w.length < 0 then (w.length : Int) else posI (vowR s) w k w.length + k.tmod 2 := rfl
      have k1 : ∀ a : Nat, a ≤ w.length → Fn P 75 [sl [List.take a w, x, List.drop a w]] (sl (turnL w a a x)) := fun a ha => by
        have := concatS_ok [w.take a, x, w.drop a] (by simp) (by simp; omega)
        have ej : List.flatten [w.take a, x, w.drop a] = turnL w a a x := by simp [turnL]
        rwa [ej] at this
      have e7 : ∀ n, List.take (n - 0) w = List.take n w := fun n => rfl
      have fin : ∀ a : Int, atI (vowR s) w k = a → infL s w x k = turnL w a.toNat a.toNat x := fun a e => by rw [infL, e]
      by_cases hk1 : k < 2
      · rw [idxP_first (vowR s) w hk1] at c5
        generalize hp : posI (vowR s) w k w.length = p at *
        by_cases hp0 : p < 0
        · rw [if_pos hp0] at hat
          have k2 := k1 w.length (Nat.le_refl _)
          have e6 : List.take (w.length - w.length) (List.drop w.length w) = List.drop w.length w := List.take_of_length_le (by simp)
          have fi := fin _ hat
          rw [Int.toNat_natCast] at fi
          rw [← fi] at k2
          have k3 := held_ok (infL s w x k)
          (refine fn_look s33_ok (by simp) (by intro k; simp only [go_sem, Nat.reduceEqDiff, ↓reduceIte, reduceCtorEq, Nat.reduceAdd, Nat.reduceMul, Int.reduceToNat, List.reduceReplicate, Nat.reduceLeDiff, Nat.reduceLT, Int.reduceLT, Int.reduceLE, Int.reduceEq]) fun S hS => cwp_sound _ _ _ _ ?_; simp (disch := omega) only [s33, go_sem, Nat.reduceEqDiff, ↓reduceIte, reduceCtorEq, Nat.reduceAdd, Nat.reduceMul, Int.reduceToNat, List.reduceReplicate, Nat.reduceLeDiff, Nat.reduceLT, Int.reduceLT, Int.reduceLE, Int.reduceEq])
          repeat' (first | (with_reducible refine in_seq ?_) | (with_reducible refine in_reg ?_) | (with_reducible refine in_block ?_) | (with_reducible refine in_cond ?_) | (with_reducible refine in_ret ?_) | (with_reducible refine in_skip ?_) | (simp (disch := omega) only [go_sem, Nat.reduceEqDiff, ↓reduceIte, reduceCtorEq, Nat.reduceAdd, Nat.reduceMul, Int.reduceToNat, List.reduceReplicate, Nat.reduceLeDiff, Nat.reduceLT, Int.reduceLT, Int.reduceLE, Int.reduceEq, e7, e6]) | (with_reducible refine giv_intro fun _h => ?_) | (with_reducible refine alt_intro ?_ (fun _h => ?_)) | ((first | with_reducible refine br_dec (fun _h => ?_) (fun _h => ?_) | with_reducible refine br_ndec (fun _h => ?_) (fun _h => ?_)) <;> (first | (exfalso; omega) | simp only [decide_eq_false _h] | simp only [decide_eq_true _h] | skip)) | ((first | with_reducible refine br_not (fun _h => ?_) (fun _h => ?_) | with_reducible refine br_var (fun _h => ?_) (fun _h => ?_)) <;> (try simp only [_h])) | ((with_reducible apply call (c1)); (focus (simp (disch := omega) only [go_sem, Nat.reduceEqDiff, ↓reduceIte, reduceCtorEq, Nat.reduceAdd, Nat.reduceMul, Int.reduceToNat, List.reduceReplicate, Nat.reduceLeDiff, Nat.reduceLT, Int.reduceLT, Int.reduceLE, Int.reduceEq, e7, e6]; (try rfl); done))) | ((with_reducible apply call_lend (c3)); (focus (simp (disch := omega) only [go_sem, Nat.reduceEqDiff, ↓reduceIte, reduceCtorEq, Nat.reduceAdd, Nat.reduceMul, Int.reduceToNat, List.reduceReplicate, Nat.reduceLeDiff, Nat.reduceLT, Int.reduceLT, Int.reduceLE, Int.reduceEq, e7, e6]; (try rfl); done)); (focus rfl)) | ((with_reducible apply call_lend (c4)); (focus (simp (disch := omega) only [go_sem, Nat.reduceEqDiff, ↓reduceIte, reduceCtorEq, Nat.reduceAdd, Nat.reduceMul, Int.reduceToNat, List.reduceReplicate, Nat.reduceLeDiff, Nat.reduceLT, Int.reduceLT, Int.reduceLE, Int.reduceEq, e7, e6]; (try rfl); done)); (focus rfl)) | ((with_reducible apply call (of_ok s)); (focus (simp (disch := omega) only [go_sem, Nat.reduceEqDiff, ↓reduceIte, reduceCtorEq, Nat.reduceAdd, Nat.reduceMul, Int.reduceToNat, List.reduceReplicate, Nat.reduceLeDiff, Nat.reduceLT, Int.reduceLT, Int.reduceLE, Int.reduceEq, e7, e6]; (try rfl); done))) | ((with_reducible apply call (c5)); (focus (simp (disch := omega) only [go_sem, Nat.reduceEqDiff, ↓reduceIte, reduceCtorEq, Nat.reduceAdd, Nat.reduceMul, Int.reduceToNat, List.reduceReplicate, Nat.reduceLeDiff, Nat.reduceLT, Int.reduceLT, Int.reduceLE, Int.reduceEq, e7, e6]; (try rfl); done))) | ((with_reducible apply call_D (k2)); (focus (simp (disch := omega) only [go_sem, Nat.reduceEqDiff, ↓reduceIte, reduceCtorEq, Nat.reduceAdd, Nat.reduceMul, Int.reduceToNat, List.reduceReplicate, Nat.reduceLeDiff, Nat.reduceLT, Int.reduceLT, Int.reduceLE, Int.reduceEq, e7, e6]; (try rfl); done))) | ((with_reducible apply call_D (k3)); (focus (simp (disch := omega) only [go_sem, Nat.reduceEqDiff, ↓reduceIte, reduceCtorEq, Nat.reduceAdd, Nat.reduceMul, Int.reduceToNat, List.reduceReplicate, Nat.reduceLeDiff, Nat.reduceLT, Int.reduceLT, Int.reduceLE, Int.reduceEq, e7, e6]; (try rfl); done))) | fail)
        · rw [if_neg hp0] at hat
          have fi := fin _ hat
          have k2 := k1 (p + k.tmod 2).toNat (by omega)
          rw [← fi] at k2
          have k3 := held_ok (infL s w x k)
          have e6 : List.take (w.length - (p + k.tmod 2).toNat) (List.drop (p + k.tmod 2).toNat w) = List.drop (p + k.tmod 2).toNat w := List.take_of_length_le (by simp)
          by_cases hk2 : k.tmod 2 = 1
          · rw [hk2] at k2 e6
            (refine fn_look s33_ok (by simp) (by intro k; simp only [go_sem, Nat.reduceEqDiff, ↓reduceIte, reduceCtorEq, Nat.reduceAdd, Nat.reduceMul, Int.reduceToNat, List.reduceReplicate, Nat.reduceLeDiff, Nat.reduceLT, Int.reduceLT, Int.reduceLE, Int.reduceEq]) fun S hS => cwp_sound _ _ _ _ ?_; simp (disch := omega) only [s33, go_sem, Nat.reduceEqDiff, ↓reduceIte, reduceCtorEq, Nat.reduceAdd, Nat.reduceMul, Int.reduceToNat, List.reduceReplicate, Nat.reduceLeDiff, Nat.reduceLT, Int.reduceLT, Int.reduceLE, Int.reduceEq])
            repeat' (first | (with_reducible refine in_seq ?_) | (with_reducible refine in_reg ?_) | (with_reducible refine in_block ?_) | (with_reducible refine in_cond ?_) | (with_reducible refine in_ret ?_) | (with_reducible refine in_skip ?_) | (simp (disch := omega) only [go_sem, Nat.reduceEqDiff, ↓reduceIte, reduceCtorEq, Nat.reduceAdd, Nat.reduceMul, Int.reduceToNat, List.reduceReplicate, Nat.reduceLeDiff, Nat.reduceLT, Int.reduceLT, Int.reduceLE, Int.reduceEq, e7, e6, hk2]) | (with_reducible refine giv_intro fun _h => ?_) | (with_reducible refine alt_intro ?_ (fun _h => ?_)) | ((first | with_reducible refine br_dec (fun _h => ?_) (fun _h => ?_) | with_reducible refine br_ndec (fun _h => ?_) (fun _h => ?_)) <;> (first | (exfalso; omega) | simp only [decide_eq_false _h] | simp only [decide_eq_true _h] | skip)) | ((first | with_reducible refine br_not (fun _h => ?_) (fun _h => ?_) | with_reducible refine br_var (fun _h => ?_) (fun _h => ?_)) <;> (try simp only [_h])) | ((with_reducible apply call (c1)); (focus (simp (disch := omega) only [go_sem, Nat.reduceEqDiff, ↓reduceIte, reduceCtorEq, Nat.reduceAdd, Nat.reduceMul, Int.reduceToNat, List.reduceReplicate, Nat.reduceLeDiff, Nat.reduceLT, Int.reduceLT, Int.reduceLE, Int.reduceEq, e7, e6, hk2]; (try rfl); done))) | ((with_reducible apply call_lend (c3)); (focus (simp (disch := omega) only [go_sem, Nat.reduceEqDiff, ↓reduceIte, reduceCtorEq, Nat.reduceAdd, Nat.reduceMul, Int.reduceToNat, List.reduceReplicate, Nat.reduceLeDiff, Nat.reduceLT, Int.reduceLT, Int.reduceLE, Int.reduceEq, e7, e6, hk2]; (try rfl); done)); (focus rfl)) | ((with_reducible apply call_lend (c4)); (focus (simp (disch := omega) only [go_sem, Nat.reduceEqDiff, ↓reduceIte, reduceCtorEq, Nat.reduceAdd, Nat.reduceMul, Int.reduceToNat, List.reduceReplicate, Nat.reduceLeDiff, Nat.reduceLT, Int.reduceLT, Int.reduceLE, Int.reduceEq, e7, e6, hk2]; (try rfl); done)); (focus rfl)) | ((with_reducible apply call (of_ok s)); (focus (simp (disch := omega) only [go_sem, Nat.reduceEqDiff, ↓reduceIte, reduceCtorEq, Nat.reduceAdd, Nat.reduceMul, Int.reduceToNat, List.reduceReplicate, Nat.reduceLeDiff, Nat.reduceLT, Int.reduceLT, Int.reduceLE, Int.reduceEq, e7, e6, hk2]; (try rfl); done))) | ((with_reducible apply call (c5)); (focus (simp (disch := omega) only [go_sem, Nat.reduceEqDiff, ↓reduceIte, reduceCtorEq, Nat.reduceAdd, Nat.reduceMul, Int.reduceToNat, List.reduceReplicate, Nat.reduceLeDiff, Nat.reduceLT, Int.reduceLT, Int.reduceLE, Int.reduceEq, e7, e6, hk2]; (try rfl); done))) | ((with_reducible apply call_D (k2)); (focus (simp (disch := omega) only [go_sem, Nat.reduceEqDiff, ↓reduceIte, reduceCtorEq, Nat.reduceAdd, Nat.reduceMul, Int.reduceToNat, List.reduceReplicate, Nat.reduceLeDiff, Nat.reduceLT, Int.reduceLT, Int.reduceLE, Int.reduceEq, e7, e6, hk2]; (try rfl); done))) | ((with_reducible apply call_D (k3)); (focus (simp (disch := omega) only [go_sem, Nat.reduceEqDiff, ↓reduceIte, reduceCtorEq, Nat.reduceAdd, Nat.reduceMul, Int.reduceToNat, List.reduceReplicate, Nat.reduceLeDiff, Nat.reduceLT, Int.reduceLT, Int.reduceLE, Int.reduceEq, e7, e6, hk2]; (try rfl); done))) | fail)
          · have hk3 : k.tmod 2 = 0 := by omega
            rw [hk3, Int.add_zero] at k2 e6
            (refine fn_look s33_ok (by simp) (by intro k; simp only [go_sem, Nat.reduceEqDiff, ↓reduceIte, reduceCtorEq, Nat.reduceAdd, Nat.reduceMul, Int.reduceToNat, List.reduceReplicate, Nat.reduceLeDiff, Nat.reduceLT, Int.reduceLT, Int.reduceLE, Int.reduceEq]) fun S hS => cwp_sound _ _ _ _ ?_; simp (disch := omega) only [s33, go_sem, Nat.reduceEqDiff, ↓reduceIte, reduceCtorEq, Nat.reduceAdd, Nat.reduceMul, Int.reduceToNat, List.reduceReplicate, Nat.reduceLeDiff, Nat.reduceLT, Int.reduceLT, Int.reduceLE, Int.reduceEq])
            repeat' (first | (with_reducible refine in_seq ?_) | (with_reducible refine in_reg ?_) | (with_reducible refine in_block ?_) | (with_reducible refine in_cond ?_) | (with_reducible refine in_ret ?_) | (with_reducible refine in_skip ?_) | (simp (disch := omega) only [go_sem, Nat.reduceEqDiff, ↓reduceIte, reduceCtorEq, Nat.reduceAdd, Nat.reduceMul, Int.reduceToNat, List.reduceReplicate, Nat.reduceLeDiff, Nat.reduceLT, Int.reduceLT, Int.reduceLE, Int.reduceEq, e7, e6, hk3]) | (with_reducible refine giv_intro fun _h => ?_) | (with_reducible refine alt_intro ?_ (fun _h => ?_)) | ((first | with_reducible refine br_dec (fun _h => ?_) (fun _h => ?_) | with_reducible refine br_ndec (fun _h => ?_) (fun _h => ?_)) <;> (first | (exfalso; omega) | simp only [decide_eq_false _h] | simp only [decide_eq_true _h] | skip)) | ((first | with_reducible refine br_not (fun _h => ?_) (fun _h => ?_) | with_reducible refine br_var (fun _h => ?_) (fun _h => ?_)) <;> (try simp only [_h])) | ((with_reducible apply call (c1)); (focus (simp (disch := omega) only [go_sem, Nat.reduceEqDiff, ↓reduceIte, reduceCtorEq, Nat.reduceAdd, Nat.reduceMul, Int.reduceToNat, List.reduceReplicate, Nat.reduceLeDiff, Nat.reduceLT, Int.reduceLT, Int.reduceLE, Int.reduceEq, e7, e6, hk3]; (try rfl); done))) | ((with_reducible apply call_lend (c3)); (focus (simp (disch := omega) only [go_sem, Nat.reduceEqDiff, ↓reduceIte, reduceCtorEq, Nat.reduceAdd, Nat.reduceMul, Int.reduceToNat, List.reduceReplicate, Nat.reduceLeDiff, Nat.reduceLT, Int.reduceLT, Int.reduceLE, Int.reduceEq, e7, e6, hk3]; (try rfl); done)); (focus rfl)) | ((with_reducible apply call_lend (c4)); (focus (simp (disch := omega) only [go_sem, Nat.reduceEqDiff, ↓reduceIte, reduceCtorEq, Nat.reduceAdd, Nat.reduceMul, Int.reduceToNat, List.reduceReplicate, Nat.reduceLeDiff, Nat.reduceLT, Int.reduceLT, Int.reduceLE, Int.reduceEq, e7, e6, hk3]; (try rfl); done)); (focus rfl)) | ((with_reducible apply call (of_ok s)); (focus (simp (disch := omega) only [go_sem, Nat.reduceEqDiff, ↓reduceIte, reduceCtorEq, Nat.reduceAdd, Nat.reduceMul, Int.reduceToNat, List.reduceReplicate, Nat.reduceLeDiff, Nat.reduceLT, Int.reduceLT, Int.reduceLE, Int.reduceEq, e7, e6, hk3]; (try rfl); done))) | ((with_reducible apply call (c5)); (focus (simp (disch := omega) only [go_sem, Nat.reduceEqDiff, ↓reduceIte, reduceCtorEq, Nat.reduceAdd, Nat.reduceMul, Int.reduceToNat, List.reduceReplicate, Nat.reduceLeDiff, Nat.reduceLT, Int.reduceLT, Int.reduceLE, Int.reduceEq, e7, e6, hk3]; (try rfl); done))) | ((with_reducible apply call_D (k2)); (focus (simp (disch := omega) only [go_sem, Nat.reduceEqDiff, ↓reduceIte, reduceCtorEq, Nat.reduceAdd, Nat.reduceMul, Int.reduceToNat, List.reduceReplicate, Nat.reduceLeDiff, Nat.reduceLT, Int.reduceLT, Int.reduceLE, Int.reduceEq, e7, e6, hk3]; (try rfl); done))) | ((with_reducible apply call_D (k3)); (focus (simp (disch := omega) only [go_sem, Nat.reduceEqDiff, ↓reduceIte, reduceCtorEq, Nat.reduceAdd, Nat.reduceMul, Int.reduceToNat, List.reduceReplicate, Nat.reduceLeDiff, Nat.reduceLT, Int.reduceLT, Int.reduceLE, Int.reduceEq, e7, e6, hk3]; (try rfl); done))) | fail)
      · (refine fn_look s33_ok (by simp) (by intro k; simp only [go_sem, Nat.reduceEqDiff, ↓reduceIte, reduceCtorEq, Nat.reduceAdd, Nat.reduceMul, Int.reduceToNat, List.reduceReplicate, Nat.reduceLeDiff, Nat.reduceLT, Int.reduceLT, Int.reduceLE, Int.reduceEq]) fun S hS => cwp_sound _ _ _ _ ?_; simp (disch := omega) only [s33, go_sem, Nat.reduceEqDiff, ↓reduceIte, reduceCtorEq, Nat.reduceAdd, Nat.reduceMul, Int.reduceToNat, List.reduceReplicate, Nat.reduceLeDiff, Nat.reduceLT, Int.reduceLT, Int.reduceLE, Int.reduceEq])
        repeat' (first | (with_reducible refine in_seq ?_) | (with_reducible refine in_reg ?_) | (with_reducible refine in_block ?_) | (with_reducible refine in_cond ?_) | (with_reducible refine in_ret ?_) | (with_reducible refine in_skip ?_) | (simp (disch := omega) only [go_sem, Nat.reduceEqDiff, ↓reduceIte, reduceCtorEq, Nat.reduceAdd, Nat.reduceMul, Int.reduceToNat, List.reduceReplicate, Nat.reduceLeDiff, Nat.reduceLT, Int.reduceLT, Int.reduceLE, Int.reduceEq]) | (with_reducible refine giv_intro fun _h => ?_) | (with_reducible refine alt_intro ?_ (fun _h => ?_)) | ((first | with_reducible refine br_dec (fun _h => ?_) (fun _h => ?_) | with_reducible refine br_ndec (fun _h => ?_) (fun _h => ?_)) <;> (first | (exfalso; omega) | simp only [decide_eq_false _h] | simp only [decide_eq_true _h] | skip)) | ((first | with_reducible refine br_not (fun _h => ?_) (fun _h => ?_) | with_reducible refine br_var (fun _h => ?_) (fun _h => ?_)) <;> (try simp only [_h])) | ((with_reducible apply call (c1)); (focus (simp (disch := omega) only [go_sem, Nat.reduceEqDiff, ↓reduceIte, reduceCtorEq, Nat.reduceAdd, Nat.reduceMul, Int.reduceToNat, List.reduceReplicate, Nat.reduceLeDiff, Nat.reduceLT, Int.reduceLT, Int.reduceLE, Int.reduceEq]; (try rfl); done))) | ((with_reducible apply call_lend (c3)); (focus (simp (disch := omega) only [go_sem, Nat.reduceEqDiff, ↓reduceIte, reduceCtorEq, Nat.reduceAdd, Nat.reduceMul, Int.reduceToNat, List.reduceReplicate, Nat.reduceLeDiff, Nat.reduceLT, Int.reduceLT, Int.reduceLE, Int.reduceEq]; (try rfl); done)); (focus rfl)) | ((with_reducible apply call_lend (c4)); (focus (simp (disch := omega) only [go_sem, Nat.reduceEqDiff, ↓reduceIte, reduceCtorEq, Nat.reduceAdd, Nat.reduceMul, Int.reduceToNat, List.reduceReplicate, Nat.reduceLeDiff, Nat.reduceLT, Int.reduceLT, Int.reduceLE, Int.reduceEq]; (try rfl); done)); (focus rfl)) | ((with_reducible apply call (of_ok s)); (focus (simp (disch := omega) only [go_sem, Nat.reduceEqDiff, ↓reduceIte, reduceCtorEq, Nat.reduceAdd, Nat.reduceMul, Int.reduceToNat, List.reduceReplicate, Nat.reduceLeDiff, Nat.reduceLT, Int.reduceLT, Int.reduceLE, Int.reduceEq]; (try rfl); done))) | ((with_reducible apply call (c5)); (focus (simp (disch := omega) only [go_sem, Nat.reduceEqDiff, ↓reduceIte, reduceCtorEq, Nat.reduceAdd, Nat.reduceMul, Int.reduceToNat, List.reduceReplicate, Nat.reduceLeDiff, Nat.reduceLT, Int.reduceLT, Int.reduceLE, Int.reduceEq]; (try rfl); done))) | fail)
        (refine loopC hS [1, 2, 3, 11, 40, 41] (by simp only [go_sem, Nat.reduceEqDiff, ↓reduceIte, reduceCtorEq, Nat.reduceAdd, Nat.reduceMul, Int.reduceToNat, List.reduceReplicate, Nat.reduceLeDiff, Nat.reduceLT, Int.reduceLT, Int.reduceLE, Int.reduceEq]; try rfl) (fun (i : Nat) => [(12, intA (atK (vowR s) w k i)), (42, intA i)]) (fun (i : Nat) => [none, none, none]) (fun (i : Nat) => i ≤ w.length) (fun (i : Nat) => w.length - i) (0) ?h02 ?hn2 ?rd2; case hn2 => (intro s; first | rfl | (rcases s with ⟨_, _⟩; rfl) | (rcases s with ⟨_, _, _⟩; rfl) | (rcases s with ⟨_, _, _, _⟩; rfl) | (rcases s with ⟨_, _, _, _, _⟩; rfl)))
        · simp (disch := omega) only [go_sem, Nat.reduceEqDiff, ↓reduceIte, reduceCtorEq, Nat.reduceAdd, Nat.reduceMul, Int.reduceToNat, List.reduceReplicate, Nat.reduceLeDiff, Nat.reduceLT, Int.reduceLT, Int.reduceLE, Int.reduceEq]; simp [atK, posI]
        rintro i hi
        replace hi : i ≤ w.length := hi
        have hri := posI_range (vowR s) w k i
        by_cases hil : i < w.length
        · have d1 := vowel_ok (ofM s) (nth w i)
          rw [vowM_of h1] at d1
          have hst : posI (vowR s) w k (i + 1) = if vowR s (nth w i) = true ∧ (posI (vowR s) w k i < 0 ∨ 2 ≤ k) then (i : Int) else posI (vowR s) w k i := rfl
          repeat' (first | (with_reducible refine in_seq ?_) | (with_reducible refine in_reg ?_) | (with_reducible refine in_block ?_) | (with_reducible refine in_cond ?_) | (with_reducible refine in_ret ?_) | (with_reducible refine in_skip ?_) | (simp (disch := omega) only [go_sem, Nat.reduceEqDiff, ↓reduceIte, reduceCtorEq, Nat.reduceAdd, Nat.reduceMul, Int.reduceToNat, List.reduceReplicate, Nat.reduceLeDiff, Nat.reduceLT, Int.reduceLT, Int.reduceLE, Int.reduceEq]) | (with_reducible refine giv_intro fun _h => ?_) | (with_reducible refine alt_intro ?_ (fun _h => ?_)) | ((first | with_reducible refine br_dec (fun _h => ?_) (fun _h => ?_) | with_reducible refine br_ndec (fun _h => ?_) (fun _h => ?_)) <;> (first | (exfalso; omega) | simp only [decide_eq_false _h] | simp only [decide_eq_true _h] | skip)) | ((first | with_reducible refine br_not (fun _h => ?_) (fun _h => ?_) | with_reducible refine br_var (fun _h => ?_) (fun _h => ?_)) <;> (try simp only [_h])) | ((with_reducible apply call (d1)); (focus (simp (disch := omega) only [go_sem, Nat.reduceEqDiff, ↓reduceIte, reduceCtorEq, Nat.reduceAdd, Nat.reduceMul, Int.reduceToNat, List.reduceReplicate, Nat.reduceLeDiff, Nat.reduceLT, Int.reduceLT, Int.reduceLE, Int.reduceEq]; (try rfl); done))) | fail)
          · refine ⟨i + 1, ⟨by omega, by omega⟩, ?_, by omega⟩
            rw [if_pos ⟨_h, .inr (by omega)⟩] at hst
            rw [atK, hst, if_neg (by omega)]
          · refine ⟨i + 1, ⟨by omega, by omega⟩, ?_, by omega⟩
            rw [if_neg (fun h => by have := h.1; rw [_h] at this; cases this)] at hst
            rw [atK, atK, hst]
        · have hii : i = w.length := by omega
          subst hii
          have hpn := idxP_none (vowR s) w k
          generalize hp : posI (vowR s) w k w.length = p at *
          by_cases hp0 : p < 0
          · rw [if_pos hp0] at hat
            have k2 := k1 w.length (Nat.le_refl _)
            have e6 : List.take (w.length - w.length) (List.drop w.length w) = List.drop w.length w := List.take_of_length_le (by simp)
            have fi := fin _ hat
            rw [Int.toNat_natCast] at fi
            rw [← fi] at k2
            have k3 := held_ok (infL s w x k)
            have e8 : atK (vowR s) w k w.length = -1 := by rw [atK, hp, if_pos hp0]; exact hpn hp0
            repeat' (first | (with_reducible refine in_seq ?_) | (with_reducible refine in_reg ?_) | (with_reducible refine in_block ?_) | (with_reducible refine in_cond ?_) | (with_reducible refine in_ret ?_) | (with_reducible refine in_skip ?_) | (simp (disch := omega) only [go_sem, Nat.reduceEqDiff, ↓reduceIte, reduceCtorEq, Nat.reduceAdd, Nat.reduceMul, Int.reduceToNat, List.reduceReplicate, Nat.reduceLeDiff, Nat.reduceLT, Int.reduceLT, Int.reduceLE, Int.reduceEq, e7, e6, e8]) | (with_reducible refine giv_intro fun _h => ?_) | (with_reducible refine alt_intro ?_ (fun _h => ?_)) | ((first | with_reducible refine br_dec (fun _h => ?_) (fun _h => ?_) | with_reducible refine br_ndec (fun _h => ?_) (fun _h => ?_)) <;> (first | (exfalso; omega) | simp only [decide_eq_false _h] | simp only [decide_eq_true _h] | skip)) | ((first | with_reducible refine br_not (fun _h => ?_) (fun _h => ?_) | with_reducible refine br_var (fun _h => ?_) (fun _h => ?_)) <;> (try simp only [_h])) | ((with_reducible apply call_D (k2)); (focus (simp (disch := omega) only [go_sem, Nat.reduceEqDiff, ↓reduceIte, reduceCtorEq, Nat.reduceAdd, Nat.reduceMul, Int.reduceToNat, List.reduceReplicate, Nat.reduceLeDiff, Nat.reduceLT, Int.reduceLT, Int.reduceLE, Int.reduceEq, e7, e6, e8]; (try rfl); done))) | ((with_reducible apply call_D (k3)); (focus (simp (disch := omega) only [go_sem, Nat.reduceEqDiff, ↓reduceIte, reduceCtorEq, Nat.reduceAdd, Nat.reduceMul, Int.reduceToNat, List.reduceReplicate, Nat.reduceLeDiff, Nat.reduceLT, Int.reduceLT, Int.reduceLE, Int.reduceEq, e7, e6, e8]; (try rfl); done))) | fail)
          · rw [if_neg hp0] at hat
            have fi := fin _ hat
            have k2 := k1 (p + k.tmod 2).toNat (by omega)
            rw [← fi] at k2
            have k3 := held_ok (infL s w x k)
            have e6 : List.take (w.length - (p + k.tmod 2).toNat) (List.drop (p + k.tmod 2).toNat w) = List.drop (p + k.tmod 2).toNat w := List.take_of_length_le (by simp)
            have e8 : atK (vowR s) w k w.length = p := by rw [atK, hp]; exact if_neg hp0
            by_cases hk2 : k.tmod 2 = 1
            · rw [hk2] at k2 e6
              repeat' (first | (with_reducible refine in_seq ?_) | (with_reducible refine in_reg ?_) | (with_reducible refine in_block ?_) | (with_reducible refine in_cond ?_) | (with_reducible refine in_ret ?_) | (with_reducible refine in_skip ?_) | (simp (disch := omega) only [go_sem, Nat.reduceEqDiff, ↓reduceIte, reduceCtorEq, Nat.reduceAdd, Nat.reduceMul, Int.reduceToNat, List.reduceReplicate, Nat.reduceLeDiff, Nat.reduceLT, Int.reduceLT, Int.reduceLE, Int.reduceEq, e7, e6, hk2, e8]) | (with_reducible refine giv_intro fun _h => ?_) | (with_reducible refine alt_intro ?_ (fun _h => ?_)) | ((first | with_reducible refine br_dec (fun _h => ?_) (fun _h => ?_) | with_reducible refine br_ndec (fun _h => ?_) (fun _h => ?_)) <;> (first | (exfalso; omega) | simp only [decide_eq_false _h] | simp only [decide_eq_true _h] | skip)) | ((first | with_reducible refine br_not (fun _h => ?_) (fun _h => ?_) | with_reducible refine br_var (fun _h => ?_) (fun _h => ?_)) <;> (try simp only [_h])) | ((with_reducible apply call_D (k2)); (focus (simp (disch := omega) only [go_sem, Nat.reduceEqDiff, ↓reduceIte, reduceCtorEq, Nat.reduceAdd, Nat.reduceMul, Int.reduceToNat, List.reduceReplicate, Nat.reduceLeDiff, Nat.reduceLT, Int.reduceLT, Int.reduceLE, Int.reduceEq, e7, e6, hk2, e8]; (try rfl); done))) | ((with_reducible apply call_D (k3)); (focus (simp (disch := omega) only [go_sem, Nat.reduceEqDiff, ↓reduceIte, reduceCtorEq, Nat.reduceAdd, Nat.reduceMul, Int.reduceToNat, List.reduceReplicate, Nat.reduceLeDiff, Nat.reduceLT, Int.reduceLT, Int.reduceLE, Int.reduceEq, e7, e6, hk2, e8]; (try rfl); done))) | fail)
            · have hk3 : k.tmod 2 = 0 := by omega
              rw [hk3, Int.add_zero] at k2 e6
              repeat' (first | (with_reducible refine in_seq ?_) | (with_reducible refine in_reg ?_) | (with_reducible refine in_block ?_) | (with_reducible refine in_cond ?_) | (with_reducible refine in_ret ?_) | (with_reducible refine in_skip ?_) | (simp (disch := omega) only [go_sem, Nat.reduceEqDiff, ↓reduceIte, reduceCtorEq, Nat.reduceAdd, Nat.reduceMul, Int.reduceToNat, List.reduceReplicate, Nat.reduceLeDiff, Nat.reduceLT, Int.reduceLT, Int.reduceLE, Int.reduceEq, e7, e6, hk3, e8]) | (with_reducible refine giv_intro fun _h => ?_) | (with_reducible refine alt_intro ?_ (fun _h => ?_)) | ((first | with_reducible refine br_dec (fun _h => ?_) (fun _h => ?_) | with_reducible refine br_ndec (fun _h => ?_) (fun _h => ?_)) <;> (first | (exfalso; omega) | simp only [decide_eq_false _h] | simp only [decide_eq_true _h] | skip)) | ((first | with_reducible refine br_not (fun _h => ?_) (fun _h => ?_) | with_reducible refine br_var (fun _h => ?_) (fun _h => ?_)) <;> (try simp only [_h])) | ((with_reducible apply call_D (k2)); (focus (simp (disch := omega) only [go_sem, Nat.reduceEqDiff, ↓reduceIte, reduceCtorEq, Nat.reduceAdd, Nat.reduceMul, Int.reduceToNat, List.reduceReplicate, Nat.reduceLeDiff, Nat.reduceLT, Int.reduceLT, Int.reduceLE, Int.reduceEq, e7, e6, hk3, e8]; (try rfl); done))) | ((with_reducible apply call_D (k3)); (focus (simp (disch := omega) only [go_sem, Nat.reduceEqDiff, ↓reduceIte, reduceCtorEq, Nat.reduceAdd, Nat.reduceMul, Int.reduceToNat, List.reduceReplicate, Nat.reduceLeDiff, Nat.reduceLT, Int.reduceLT, Int.reduceLE, Int.reduceEq, e7, e6, hk3, e8]; (try rfl); done))) | fail)
  · rw [infT, if_pos h]
    rw [show firstE [sndErr s, wordsErr [w, x]] = infE0 s w x from rfl] at c4
    (refine fn_look s33_ok (by simp) (by intro k; simp only [go_sem, Nat.reduceEqDiff, ↓reduceIte, reduceCtorEq, Nat.reduceAdd, Nat.reduceMul, Int.reduceToNat, List.reduceReplicate, Nat.reduceLeDiff, Nat.reduceLT, Int.reduceLT, Int.reduceLE, Int.reduceEq]) fun S hS => cwp_sound _ _ _ _ ?_; simp (disch := omega) only [s33, go_sem, Nat.reduceEqDiff, ↓reduceIte, reduceCtorEq, Nat.reduceAdd, Nat.reduceMul, Int.reduceToNat, List.reduceReplicate, Nat.reduceLeDiff, Nat.reduceLT, Int.reduceLT, Int.reduceLE, Int.reduceEq])
    repeat' (first | (with_reducible refine in_seq ?_) | (with_reducible refine in_reg ?_) | (with_reducible refine in_block ?_) | (with_reducible refine in_cond ?_) | (with_reducible refine in_ret ?_) | (with_reducible refine in_skip ?_) | (simp (disch := omega) only [go_sem, Nat.reduceEqDiff, ↓reduceIte, reduceCtorEq, Nat.reduceAdd, Nat.reduceMul, Int.reduceToNat, List.reduceReplicate, Nat.reduceLeDiff, Nat.reduceLT, Int.reduceLT, Int.reduceLE, Int.reduceEq]) | (with_reducible refine giv_intro fun _h => ?_) | (with_reducible refine alt_intro ?_ (fun _h => ?_)) | ((first | with_reducible refine br_dec (fun _h => ?_) (fun _h => ?_) | with_reducible refine br_ndec (fun _h => ?_) (fun _h => ?_)) <;> (first | (exfalso; omega) | simp only [decide_eq_false _h] | simp only [decide_eq_true _h] | skip)) | ((first | with_reducible refine br_not (fun _h => ?_) (fun _h => ?_) | with_reducible refine br_var (fun _h => ?_) (fun _h => ?_)) <;> (try simp only [_h])) | ((with_reducible apply call (c1)); (focus (simp (disch := omega) only [go_sem, Nat.reduceEqDiff, ↓reduceIte, reduceCtorEq, Nat.reduceAdd, Nat.reduceMul, Int.reduceToNat, List.reduceReplicate, Nat.reduceLeDiff, Nat.reduceLT, Int.reduceLT, Int.reduceLE, Int.reduceEq]; (try rfl); done))) | ((with_reducible apply call_lend (c3)); (focus (simp (disch := omega) only [go_sem, Nat.reduceEqDiff, ↓reduceIte, reduceCtorEq, Nat.reduceAdd, Nat.reduceMul, Int.reduceToNat, List.reduceReplicate, Nat.reduceLeDiff, Nat.reduceLT, Int.reduceLT, Int.reduceLE, Int.reduceEq]; (try rfl); done)); (focus rfl)) | ((with_reducible apply call_lend (c4)); (focus (simp (disch := omega) only [go_sem, Nat.reduceEqDiff, ↓reduceIte, reduceCtorEq, Nat.reduceAdd, Nat.reduceMul, Int.reduceToNat, List.reduceReplicate, Nat.reduceLeDiff, Nat.reduceLT, Int.reduceLT, Int.reduceLE, Int.reduceEq]; (try rfl); done)); (focus rfl)) | fail)
    rfl

/-- ablaut/ablautref13.Infix: 4 parameters, 0 captured -/
def s34 : SC := .seq (.reg [⟨(some 4), .box 37 1 (.t 0), none⟩,
     ⟨(some 8), .mv (.c (.slice none 0 0)), none⟩,
     ⟨(some 9), .mv (.c (.int .i64 0)), none⟩])
  (.seq (.seq (.reg [⟨(some 14), .load (some 1) (.t 4), none⟩,
       ⟨(some 15), .mv (.t 1), none⟩,
       ⟨(some 16), .mv (.t 2), none⟩,
       ⟨(some 17), .buildSl 22 1 2 [(.slice none 0 0)] [(0, 1, (.t 15)), (1, 1, (.t 16))], none⟩,
       ⟨(some 18), .call (.f 65) [(.t 14), (.t 17)], none⟩,
       ⟨(some 10), .mv (.t 18), none⟩])
    (.seq (.reg [⟨(some 19), .mv (.t 10), none⟩,
        ⟨(some 20), .bin .neq (.t 19) (.c (.int .i64 0)), none⟩])
     (.cond (.t 20) (.seq (.reg [⟨(some 21), .mv (.t 10), none⟩,
          ⟨(some 8), .mv (.c (.slice none 0 0)), none⟩,
          ⟨(some 9), .mv (.t 21), none⟩])
       (.ret)) (.skip))))
   (.seq (.seq (.reg [⟨(some 22), .mv (.t 3), none⟩,
        ⟨(some 23), .bin .lss (.t 22) (.c (.int .i64 0)), none⟩,
        ⟨(some 24), .mv (.t 23), none⟩,
        ⟨(some 25), .mv (.t 3), some (24, false)⟩,
        ⟨(some 26), .bin .gtr (.t 25) (.c (.int .i64 3)), some (24, false)⟩,
        ⟨(some 27), .pick (.t 24) (.c (.bool true)) (.t 26), none⟩])
     (.cond (.t 27) (.seq (.reg [⟨(some 8), .mv (.c (.slice none 0 0)), none⟩,
          ⟨(some 9), .mv (.c (.int .i64 1)), none⟩])
       (.ret)) (.skip)))
    (.seq (.reg [⟨(some 28), .mv (.t 1), none⟩,
        ⟨(some 29), .lenL (.t 28), none⟩,
        ⟨(some 11), .mv (.t 29), none⟩])
     (.seq (.reg [⟨(some 12), .mv (.c (.bool false)), none⟩])
      (.seq (.seq (.reg [⟨(some 13), .mv (.c (.int .i64 0)), none⟩])
        (.block 0 (.loop (.seq (.seq (.reg [⟨(some 30), .mv (.t 13), none⟩,
               ⟨(some 31), .mv (.t 1), none⟩,
               ⟨(some 32), .lenL (.t 31), none⟩,
               ⟨(some 33), .bin .lss (.t 30) (.t 32), none⟩])
            (.cond (.t 33) (.skip) (.exit 0)))
           (.seq (.block 1 (.seq (.regD [⟨(some 36), .load (some 1) (.t 4), none⟩,
                 ⟨(some 37), .mv (.t 1), none⟩,
                 ⟨(some 38), .mv (.t 13), none⟩,
                 ⟨(some 39), .iaddr 1 (.t 37) (.t 38), none⟩,
                 ⟨(some 40), .load none (.t 39), none⟩,
                 ⟨(some 41), .call (.f 76) [(.t 36), (.t 40)], none⟩,
                 ⟨(some 42), .mv (.t 41), none⟩,
                 ⟨(some 43), .mv (.t 12), some (42, true)⟩,
                 ⟨(some 44), .un .not (.t 43), some (42, true)⟩,
                 ⟨(some 45), .mv (.t 44), some (42, true)⟩,
                 ⟨(some 46), .mv (.t 3), some (45, false)⟩,
                 ⟨(some 47), .bin .geq (.t 46) (.c (.int .i64 2)), some (45, false)⟩,
                 ⟨(some 48), .pick (.t 45) (.c (.bool true)) (.t 47), some (42, true)⟩,
                 ⟨(some 49), .pick (.t 42) (.t 48) (.c (.bool false)), none⟩])
              (.cond (.t 49) (.seq (.reg [⟨(some 50), .mv (.t 13), none⟩,
                   ⟨(some 51), .mv (.t 3), none⟩,
                   ⟨(some 52), .bin .rem (.t 51) (.c (.int .i64 2)), none⟩,
                   ⟨(some 53), .bin .add (.t 50) (.t 52), none⟩,
                   ⟨(some 11), .mv (.t 53), none⟩])
                (.reg [⟨(some 12), .mv (.c (.bool true)), none⟩])) (.skip))))
            (.reg [⟨(some 34), .mv (.t 13), none⟩,
               ⟨(some 35), .bin .add (.t 34) (.c (.int .i64 1)), none⟩,
               ⟨(some 13), .mv (.t 35), none⟩]))))))
       (.seq (.regD [⟨(some 54), .mv (.t 1), none⟩,
           ⟨(some 55), .mv (.t 11), none⟩,
           ⟨(some 56), .sl 1 (.t 54) none (some (.t 55)), none⟩,
           ⟨(some 57), .mv (.t 2), none⟩,
           ⟨(some 58), .call (.f 28) [(.t 56), (.t 57)], none⟩,
           ⟨(some 59), .mv (.t 1), none⟩,
           ⟨(some 60), .mv (.t 11), none⟩,
           ⟨(some 61), .sl 1 (.t 59) (some (.t 60)) none, none⟩,
           ⟨(some 62), .call (.f 28) [(.t 58), (.t 61)], none⟩,
           ⟨(some 63), .call (.f 71) [(.t 62)], none⟩,
           ⟨(some 64), .ext (.t 63) 0, none⟩,
           ⟨(some 65), .ext (.t 63) 1, none⟩,
           ⟨(some 8), .mv (.t 64), none⟩,
           ⟨(some 9), .mv (.t 65), none⟩])
        (.ret)))))))
theorem s34_ok : lookF Try.prog 34 = some (s34, 66, [.tmp 8, .tmp 9]) := by kernel_rfl
set_option maxHeartbeats 2000000 in
theorem rInfix_ok (s : List Sound) (w x : List Str) (k : Int) : Fn P 34 [sndA s, sl w, sl x, intA k] (duo (infT s w x k)) := by
  have c1 := rAsked_ok s [w, x]
  by_cases h : infE0 s w x = 0
  · obtain ⟨h1, h3⟩ := two_zero h
    have hws := wordsErr_two.1 h3
    have hw := wordErr_len hws.1
    have hx := wordErr_len hws.2
    rw [show firstE [sndErr s, wordsErr [w, x]] = 0 from h] at c1
    by_cases hk : k < 0 ∨ 3 < k
    · rw [infT, if_neg (by omega), if_pos hk]
      (refine fn_look s34_ok (by simp) (by intro k; simp only [go_sem, Nat.reduceEqDiff, ↓reduceIte, reduceCtorEq, Nat.reduceAdd, Nat.reduceMul, Int.reduceToNat, List.reduceReplicate, Nat.reduceLeDiff, Nat.reduceLT, Int.reduceLT, Int.reduceLE, Int.reduceEq]) fun S hS => cwp_sound _ _ _ _ ?_; simp (disch := omega) only [s34, go_sem, Nat.reduceEqDiff, ↓reduceIte, reduceCtorEq, Nat.reduceAdd, Nat.reduceMul, Int.reduceToNat, List.reduceReplicate, Nat.reduceLeDiff, Nat.reduceLT, Int.reduceLT, Int.reduceLE, Int.reduceEq])
      repeat' (first | (with_reducible refine in_seq ?_) | (with_reducible refine in_reg ?_) | (with_reducible refine in_block ?_) | (with_reducible refine in_cond ?_) | (with_reducible refine in_ret ?_) | (with_reducible refine in_skip ?_) | (simp (disch := omega) only [go_sem, Nat.reduceEqDiff, ↓reduceIte, reduceCtorEq, Nat.reduceAdd, Nat.reduceMul, Int.reduceToNat, List.reduceReplicate, Nat.reduceLeDiff, Nat.reduceLT, Int.reduceLT, Int.reduceLE, Int.reduceEq]) | (with_reducible refine giv_intro fun _h => ?_) | (with_reducible refine alt_intro ?_ (fun _h => ?_)) | ((first | with_reducible refine br_dec (fun _h => ?_) (fun _h => ?_) | with_reducible refine br_ndec (fun _h => ?_) (fun _h => ?_)) <;> (first | (exfalso; omega) | simp only [decide_eq_false _h] | simp only [decide_eq_true _h] | skip)) | ((first | with_reducible refine br_not (fun _h => ?_) (fun _h => ?_) | with_reducible refine br_var (fun _h => ?_) (fun _h => ?_)) <;> (try simp only [_h])) | ((with_reducible apply call_lend (c1)); (focus (simp (disch := omega) only [go_sem, Nat.reduceEqDiff, ↓reduceIte, reduceCtorEq, Nat.reduceAdd, Nat.reduceMul, Int.reduceToNat, List.reduceReplicate, Nat.reduceLeDiff, Nat.reduceLT, Int.reduceLT, Int.reduceLE, Int.reduceEq]; (try rfl); done)); (focus rfl)) | fail)
      all_goals rfl
    · rw [infT, if_neg (by omega), if_neg hk]
      have ht := tmod2 k (by omega) (by omega)
      have hr := posI_range (vowR s) w k w.length
      have hat : atI (vowR s) w k = if posI (vowR s) w k w.length < 0 then (w.length : Int) else posI (vowR s) w k w.length + k.tmod 2 := rfl
      have hai : infL s w x k = turnL w (atI (vowR s) w k).toNat (atI (vowR s) w k).toNat x := rfl
      (refine fn_look s34_ok (by simp) (by intro k; simp only [go_sem, Nat.reduceEqDiff, ↓reduceIte, reduceCtorEq, Nat.reduceAdd, Nat.reduceMul, Int.reduceToNat, List.reduceReplicate, Nat.reduceLeDiff, Nat.reduceLT, Int.reduceLT, Int.reduceLE, Int.reduceEq]) fun S hS => cwp_sound _ _ _ _ ?_; simp (disch := omega) only [s34, go_sem, Nat.reduceEqDiff, ↓reduceIte, reduceCtorEq, Nat.reduceAdd, Nat.reduceMul, Int.reduceToNat, List.reduceReplicate, Nat.reduceLeDiff, Nat.reduceLT, Int.reduceLT, Int.reduceLE, Int.reduceEq])
      repeat' (first | (with_reducible refine in_seq ?_) | (with_reducible refine in_reg ?_) | (with_reducible refine in_block ?_) | (with_reducible refine in_cond ?_) | (with_reducible refine in_ret ?_) | (with_reducible refine in_skip ?_) | (simp (disch := omega) only [go_sem, Nat.reduceEqDiff, ↓reduceIte, reduceCtorEq, Nat.reduceAdd, Nat.reduceMul, Int.reduceToNat, List.reduceReplicate, Nat.reduceLeDiff, Nat.reduceLT, Int.reduceLT, Int.reduceLE, Int.reduceEq]) | (with_reducible refine giv_intro fun _h => ?_) | (with_reducible refine alt_intro ?_ (fun _h => ?_)) | ((first | with_reducible refine br_dec (fun _h => ?_) (fun _h => ?_) | with_reducible refine br_ndec (fun _h => ?_) (fun _h => ?_)) <;> (first | (exfalso; omega) | simp only [decide_eq_false _h] | simp only [decide_eq_true _h] | skip)) | ((first | with_reducible refine br_not (fun _h => ?_) (fun _h => ?_) | with_reducible refine br_var (fun _h => ?_) (fun _h => ?_)) <;> (try simp only [_h])) | ((with_reducible apply call_lend (c1)); (focus (simp (disch := omega) only [go_sem, Nat.reduceEqDiff, ↓reduceIte, reduceCtorEq, Nat.reduceAdd, Nat.reduceMul, Int.reduceToNat, List.reduceReplicate, Nat.reduceLeDiff, Nat.reduceLT, Int.reduceLT, Int.reduceLE, Int.reduceEq]; (try rfl); done)); (focus rfl)) | fail)
      (refine loopC hS [1, 2, 3, 4] (by simp only [go_sem, Nat.reduceEqDiff, ↓reduceIte, reduceCtorEq, Nat.reduceAdd, Nat.reduceMul, Int.reduceToNat, List.reduceReplicate, Nat.reduceLeDiff, Nat.reduceLT, Int.reduceLT, Int.reduceLE, Int.reduceEq]; try rfl) (fun (i : Nat) => [(11, intA (atR (vowR s) w k i)), (12, boolA (thereR (vowR s) w k i)), (13, intA i)]) (fun (i : Nat) => [some (.row 37 1 [sl s]), none]) (fun (i : Nat) => i ≤ w.length) (fun (i : Nat) => w.length - i) (0) ?h03 ?hn3 ?rd3; case hn3 => (intro s; first | rfl | (rcases s with ⟨_, _⟩; rfl) | (rcases s with ⟨_, _, _⟩; rfl) | (rcases s with ⟨_, _, _, _⟩; rfl) | (rcases s with ⟨_, _, _, _, _⟩; rfl)))
      · simp (disch := omega) only [go_sem, Nat.reduceEqDiff, ↓reduceIte, reduceCtorEq, Nat.reduceAdd, Nat.reduceMul, Int.reduceToNat, List.reduceReplicate, Nat.reduceLeDiff, Nat.reduceLT, Int.reduceLT, Int.reduceLE, Int.reduceEq]; simp [atR, thereR, posI]
      rintro i hi
      replace hi : i ≤ w.length := hi
      have hri := posI_range (vowR s) w k i
      by_cases hil : i < w.length
      · have d1 := isVowel_ok s (nth w i)
        by_cases hv : vowR s (nth w i) = true ∧ (posI (vowR s) w k i < 0 ∨ 2 ≤ k)
        · obtain ⟨f1, f2⟩ := atR_yes hv.1 hv.2
          have hv1 := hv.1
          have hth : thereR (vowR s) w k i = true → 2 ≤ k := fun h => by have := of_decide_eq_true h; omega
          repeat' (first | (with_reducible refine in_seq ?_) | (with_reducible refine in_reg ?_) | (with_reducible refine in_block ?_) | (with_reducible refine in_cond ?_) | (with_reducible refine in_ret ?_) | (with_reducible refine in_skip ?_) | (simp (disch := omega) only [go_sem, Nat.reduceEqDiff, ↓reduceIte, reduceCtorEq, Nat.reduceAdd, Nat.reduceMul, Int.reduceToNat, List.reduceReplicate, Nat.reduceLeDiff, Nat.reduceLT, Int.reduceLT, Int.reduceLE, Int.reduceEq, hv1]) | (with_reducible refine giv_intro fun _h => ?_) | (with_reducible refine alt_intro ?_ (fun _h => ?_)) | ((first | with_reducible refine br_dec (fun _h => ?_) (fun _h => ?_) | with_reducible refine br_ndec (fun _h => ?_) (fun _h => ?_)) <;> (first | (exfalso; omega) | simp only [decide_eq_false _h] | simp only [decide_eq_true _h] | skip)) | ((first | with_reducible refine br_not (fun _h => ?_) (fun _h => ?_) | with_reducible refine br_var (fun _h => ?_) (fun _h => ?_)) <;> (try simp only [_h])) | ((with_reducible apply call_D (d1)); (focus (simp (disch := omega) only [go_sem, Nat.reduceEqDiff, ↓reduceIte, reduceCtorEq, Nat.reduceAdd, Nat.reduceMul, Int.reduceToNat, List.reduceReplicate, Nat.reduceLeDiff, Nat.reduceLT, Int.reduceLT, Int.reduceLE, Int.reduceEq, hv1]; (try rfl); done))) | fail)
          all_goals first
            | exact ⟨i + 1, ⟨by omega, by omega⟩, f1.symm, f2.symm, by omega⟩
            | (exfalso; have := hth (by assumption); omega)
        · obtain ⟨f1, f2⟩ := atR_no hv
          have hth : vowR s (nth w i) = true → thereR (vowR s) w k i = true := fun h => decide_eq_true (by
            by_cases h2 : 0 ≤ posI (vowR s) w k i
            · exact h2
            · exact absurd ⟨h, .inl (by omega)⟩ hv)
          have hk2 : vowR s (nth w i) = true → ¬2 ≤ k := fun h h2 => hv ⟨h, .inr h2⟩
          repeat' (first | (with_reducible refine in_seq ?_) | (with_reducible refine in_reg ?_) | (with_reducible refine in_block ?_) | (with_reducible refine in_cond ?_) | (with_reducible refine in_ret ?_) | (with_reducible refine in_skip ?_) | (simp (disch := omega) only [go_sem, Nat.reduceEqDiff, ↓reduceIte, reduceCtorEq, Nat.reduceAdd, Nat.reduceMul, Int.reduceToNat, List.reduceReplicate, Nat.reduceLeDiff, Nat.reduceLT, Int.reduceLT, Int.reduceLE, Int.reduceEq]) | (with_reducible refine giv_intro fun _h => ?_) | (with_reducible refine alt_intro ?_ (fun _h => ?_)) | ((first | with_reducible refine br_dec (fun _h => ?_) (fun _h => ?_) | with_reducible refine br_ndec (fun _h => ?_) (fun _h => ?_)) <;> (first | (exfalso; omega) | simp only [decide_eq_false _h] | simp only [decide_eq_true _h] | skip)) | ((first | with_reducible refine br_not (fun _h => ?_) (fun _h => ?_) | with_reducible refine br_var (fun _h => ?_) (fun _h => ?_)) <;> (try simp only [_h])) | ((with_reducible apply call_D (d1)); (focus (simp (disch := omega) only [go_sem, Nat.reduceEqDiff, ↓reduceIte, reduceCtorEq, Nat.reduceAdd, Nat.reduceMul, Int.reduceToNat, List.reduceReplicate, Nat.reduceLeDiff, Nat.reduceLT, Int.reduceLT, Int.reduceLE, Int.reduceEq]; (try rfl); done))) | fail)
          all_goals first
            | exact ⟨i + 1, ⟨by omega, by omega⟩, f1.symm, by first | exact f2.symm | (rw [f2]; symm; assumption), by omega⟩
            | (exfalso; exact hk2 (by assumption) (by omega))
            | (exfalso; have h1 := hth (by assumption); simp_all)
      · have hii : i = w.length := by omega
        subst hii
        rw [show atR (vowR s) w k w.length = atI (vowR s) w k from rfl]
        generalize ha : atI (vowR s) w k = a at *
        have ha1 : 0 ≤ a ∧ a ≤ w.length := by split at hat <;> omega
        have e7 : ∀ n, List.take (n - 0) w = List.take n w := fun n => rfl
        have e6 : List.take (w.length - a.toNat) (List.drop a.toNat w) = List.drop a.toNat w := List.take_of_length_le (by simp)
        have d2 := join_ok (w.take a.toNat) x (by simp; omega)
        have d3 := join_ok (w.take a.toNat ++ x) (w.drop a.toNat) (by simp; omega)
        have ej : (w.take a.toNat ++ x) ++ w.drop a.toNat = infL s w x k := by rw [hai]; simp [turnL]
        rw [ej] at d3
        have d4 := short_ok (infL s w x k)
        repeat' (first | (with_reducible refine in_seq ?_) | (with_reducible refine in_reg ?_) | (with_reducible refine in_block ?_) | (with_reducible refine in_cond ?_) | (with_reducible refine in_ret ?_) | (with_reducible refine in_skip ?_) | (simp (disch := omega) only [go_sem, Nat.reduceEqDiff, ↓reduceIte, reduceCtorEq, Nat.reduceAdd, Nat.reduceMul, Int.reduceToNat, List.reduceReplicate, Nat.reduceLeDiff, Nat.reduceLT, Int.reduceLT, Int.reduceLE, Int.reduceEq, e7, e6]) | (with_reducible refine giv_intro fun _h => ?_) | (with_reducible refine alt_intro ?_ (fun _h => ?_)) | ((first | with_reducible refine br_dec (fun _h => ?_) (fun _h => ?_) | with_reducible refine br_ndec (fun _h => ?_) (fun _h => ?_)) <;> (first | (exfalso; omega) | simp only [decide_eq_false _h] | simp only [decide_eq_true _h] | skip)) | ((first | with_reducible refine br_not (fun _h => ?_) (fun _h => ?_) | with_reducible refine br_var (fun _h => ?_) (fun _h => ?_)) <;> (try simp only [_h])) | ((with_reducible apply call_D (d2)); (focus (simp (disch := omega) only [go_sem, Nat.reduceEqDiff, ↓reduceIte, reduceCtorEq, Nat.reduceAdd, Nat.reduceMul, Int.reduceToNat, List.reduceReplicate, Nat.reduceLeDiff, Nat.reduceLT, Int.reduceLT, Int.reduceLE, Int.reduceEq, e7, e6]; (try rfl); done))) | ((with_reducible apply call_D (d3)); (focus (simp (disch := omega) only [go_sem, Nat.reduceEqDiff, ↓reduceIte, reduceCtorEq, Nat.reduceAdd, Nat.reduceMul, Int.reduceToNat, List.reduceReplicate, Nat.reduceLeDiff, Nat.reduceLT, Int.reduceLT, Int.reduceLE, Int.reduceEq, e7, e6]; (try rfl); done))) | ((with_reducible apply call_D (d4)); (focus (simp (disch := omega) only [go_sem, Nat.reduceEqDiff, ↓reduceIte, reduceCtorEq, Nat.reduceAdd, Nat.reduceMul, Int.reduceToNat, List.reduceReplicate, Nat.reduceLeDiff, Nat.reduceLT, Int.reduceLT, Int.reduceLE, Int.reduceEq, e7, e6]; (try rfl); done))) | fail)
  · rw [infT, if_pos h]
    rw [show firstE [sndErr s, wordsErr [w, x]] = infE0 s w x from rfl] at c1
    (refine fn_look s34_ok (by simp) (by intro k; simp only [go_sem, Nat.reduceEqDiff, ↓reduceIte, reduceCtorEq, Nat.reduceAdd, Nat.reduceMul, Int.reduceToNat, List.reduceReplicate, Nat.reduceLeDiff, Nat.reduceLT, Int.reduceLT, Int.reduceLE, Int.reduceEq]) fun S hS => cwp_sound _ _ _ _ ?_; simp (disch := omega) only [s34, go_sem, Nat.reduceEqDiff, ↓reduceIte, reduceCtorEq, Nat.reduceAdd, Nat.reduceMul, Int.reduceToNat, List.reduceReplicate, Nat.reduceLeDiff, Nat.reduceLT, Int.reduceLT, Int.reduceLE, Int.reduceEq])
    repeat' (first | (with_reducible refine in_seq ?_) | (with_reducible refine in_reg ?_) | (with_reducible refine in_block ?_) | (with_reducible refine in_cond ?_) | (with_reducible refine in_ret ?_) | (with_reducible refine in_skip ?_) | (simp (disch := omega) only [go_sem, Nat.reduceEqDiff, ↓reduceIte, reduceCtorEq, Nat.reduceAdd, Nat.reduceMul, Int.reduceToNat, List.reduceReplicate, Nat.reduceLeDiff, Nat.reduceLT, Int.reduceLT, Int.reduceLE, Int.reduceEq]) | (with_reducible refine giv_intro fun _h => ?_) | (with_reducible refine alt_intro ?_ (fun _h => ?_)) | ((first | with_reducible refine br_dec (fun _h => ?_) (fun _h => ?_) | with_reducible refine br_ndec (fun _h => ?_) (fun _h => ?_)) <;> (first | (exfalso; omega) | simp only [decide_eq_false _h] | simp only [decide_eq_true _h] | skip)) | ((first | with_reducible refine br_not (fun _h => ?_) (fun _h => ?_) | with_reducible refine br_var (fun _h => ?_) (fun _h => ?_)) <;> (try simp only [_h])) | ((with_reducible apply call_lend (c1)); (focus (simp (disch := omega) only [go_sem, Nat.reduceEqDiff, ↓reduceIte, reduceCtorEq, Nat.reduceAdd, Nat.reduceMul, Int.reduceToNat, List.reduceReplicate, Nat.reduceLeDiff, Nat.reduceLT, Int.reduceLT, Int.reduceLE, Int.reduceEq]; (try rfl); done)); (focus rfl)) | fail)
    rfl
end Go.Proofs.Ytpfoflhhbkjngaa.Ev

/- Grams: what is given. -/
import Derived.Test.YtedbjmonfbpefaaZFnO
set_option linter.unusedVariables false
set_option linter.unusedSimpArgs false
namespace Go.Proofs.Ytedbjmonfbpefaa.Ev
open Go Go.Proofs

abbrev gramA (g : Gram) : AV := .agg [sl g.1, intA g.2]
def idxG (p : Gram → Bool) : Int → List Gram → Int
  | _, [] => -1
  | i, s :: l => if p s = true then i else idxG p (i + 1) l
/-- slices.IndexFunc[[]ablaut/api.Gram,ablaut/api.Gram]: 2 parameters, 0 captured -/
def s119 : SC := .seq (.reg [o1 4 (.mv (cI 0))])
  (.seq (.seq (.reg [o1 6 (.mv (.t 0)),
     o1 7 (.lenL (.t 6)),
     o1 8 (.mv (cI 0))])
    (.block 0 (.loop (.seq (.reg [o1 9 (.bin .lss (.t 8) (.t 7))])
       (.seq (.cond (.t 9) (.skip) (.exit 0))
        (.seq (.block 1 (.seq (.reg [o1 10 (.mv (.t 8)),
            o1 5 (.mv (.t 10))])
           (.seq (.reg [o1 11 (.mv (.t 1)),
             o1 12 (.mv (.t 0)),
             o1 13 (.mv (.t 5)),
             o1 14 (.iaddr 2 (.t 12) (.t 13)),
             o1 15 (.load (some 2) (.t 14)),
             o1 16 (.call (.t 11) [(.t 15)])])
            (.cond (.t 16) (.seq (.reg [o1 17 (.mv (.t 5)),
               o1 4 (.mv (.t 17))])
              (.ret)) (.skip)))))
         (.reg [o1 18 (.bin .add (.t 8) (cI 1)),
          o1 8 (.mv (.t 18))])))))))
   (.seq (.reg [o1 4 (.mv (cI (-1)))])
    (.ret)))
theorem s119_ok : lookF Try.prog 119 = some (s119, 19, [.tmp 4]) := by kernel_rfl
theorem indexFuncG_ok (p : Gram → Bool) (f : Nat) (l : List Gram) (hf : ∀ g ∈ l, Fn P f [gramA g] (boolA (p g))) (hl : l.length ≤ 8796093022208) : Fn P 119 [sl l, .clo f []] (intA (idxG p 0 l)) := by
  (refine fn_look s119_ok (by simp) (by intro k; simp only [go_sem, Nat.reduceEqDiff, ↓reduceIte, reduceCtorEq, Nat.reduceAdd, Nat.reduceMul, Int.reduceToNat, List.reduceReplicate, Nat.reduceLeDiff, Nat.reduceLT, Int.reduceLT, Int.reduceLE, Int.reduceEq]) fun S hS => cwp_sound _ _ _ _ ?_; simp (maxSteps := 900000) (disch := omega) only [s119, go_sem, Nat.reduceEqDiff, ↓reduceIte, reduceCtorEq, Nat.reduceAdd, Nat.reduceMul, Int.reduceToNat, List.reduceReplicate, Nat.reduceLeDiff, Nat.reduceLT, Int.reduceLT, Int.reduceLE, Int.reduceEq])
  repeat' (first | with_reducible refine inw ?_ | simp (maxSteps := 900000) (disch := omega) only [go_sem, Nat.reduceEqDiff, ↓reduceIte, reduceCtorEq, Nat.reduceAdd, Nat.reduceMul, Int.reduceToNat, List.reduceReplicate, Nat.reduceLeDiff, Nat.reduceLT, Int.reduceLT, Int.reduceLE, Int.reduceEq] | with_reducible refine pickB_f ?_ | with_reducible refine giv_intro fun _h => ?_ | with_reducible refine alt_intro ?_ fun _h => ?_ | with_reducible refine pickD_nil ?_ | (with_reducible refine brc (fun _h => ?_) fun _h => ?_) <;> first | (exfalso; omega) | simp only [decide_eq_false _h] | simp only [(_h : (_ : Bool) = _)] | simp only [decide_eq_true _h] | skip)
  (refine loopC hS [0, 1, 7] (by simp only [go_sem, Nat.reduceEqDiff, ↓reduceIte, reduceCtorEq, Nat.reduceAdd, Nat.reduceMul, Int.reduceToNat, List.reduceReplicate, Nat.reduceLeDiff, Nat.reduceLT, Int.reduceLT, Int.reduceLE, Int.reduceEq]; try rfl) (fun (i : Nat) => [(8, intA i)]) (fun (i : Nat) => []) (fun (i : Nat) => i ≤ l.length ∧ idxG p 0 l = idxG p i (l.drop i)) (fun (i : Nat) => l.length - i) (0) ?_ (by intro s; first | rfl | (rcases s with ⟨_, _⟩; rfl) | (rcases s with ⟨_, _, _⟩; rfl) | (rcases s with ⟨_, _, _, _⟩; rfl) | (rcases s with ⟨_, _, _, _, _⟩; rfl)) ?_)
  · simp (maxSteps := 900000) (disch := omega) only [go_sem, Nat.reduceEqDiff, ↓reduceIte, reduceCtorEq, Nat.reduceAdd, Nat.reduceMul, Int.reduceToNat, List.reduceReplicate, Nat.reduceLeDiff, Nat.reduceLT, Int.reduceLT, Int.reduceLE, Int.reduceEq]; exact Nat.zero_le _
  · rintro i ⟨h1, h2⟩
    replace h1 : i ≤ l.length := h1
    replace h2 : idxG p 0 l = idxG p i (l.drop i) := h2
    by_cases hi : i < l.length
    · rw [nth_drop hi] at h2
      have hc := hf (nth l i) (nth_mem hi)
      repeat' (first | with_reducible refine inw ?_ | simp (maxSteps := 900000) (disch := omega) only [go_sem, Nat.reduceEqDiff, ↓reduceIte, reduceCtorEq, Nat.reduceAdd, Nat.reduceMul, Int.reduceToNat, List.reduceReplicate, Nat.reduceLeDiff, Nat.reduceLT, Int.reduceLT, Int.reduceLE, Int.reduceEq] | (with_reducible apply call (hc)); (focus simp (maxSteps := 900000) (disch := omega) only [go_sem, Nat.reduceEqDiff, ↓reduceIte, reduceCtorEq, Nat.reduceAdd, Nat.reduceMul, Int.reduceToNat, List.reduceReplicate, Nat.reduceLeDiff, Nat.reduceLT, Int.reduceLT, Int.reduceLE, Int.reduceEq] <;> rfl) | with_reducible refine pickB_f ?_ | with_reducible refine giv_intro fun _h => ?_ | with_reducible refine alt_intro ?_ fun _h => ?_ | with_reducible refine pickD_nil ?_ | (with_reducible refine brc (fun _h => ?_) fun _h => ?_) <;> first | (exfalso; omega) | simp only [decide_eq_false _h] | simp only [(_h : (_ : Bool) = _)] | simp only [decide_eq_true _h] | skip)
      · rw [h2, idxG, if_pos _h]
      · rw [idxG, if_neg (by rw [_h]; decide)] at h2
        exact ⟨i + 1, ⟨by omega, by omega, h2⟩, rfl⟩
    · rw [List.drop_of_length_le (by omega)] at h2
      repeat' (first | with_reducible refine inw ?_ | simp (maxSteps := 900000) (disch := omega) only [go_sem, Nat.reduceEqDiff, ↓reduceIte, reduceCtorEq, Nat.reduceAdd, Nat.reduceMul, Int.reduceToNat, List.reduceReplicate, Nat.reduceLeDiff, Nat.reduceLT, Int.reduceLT, Int.reduceLE, Int.reduceEq] | with_reducible refine pickB_f ?_ | with_reducible refine giv_intro fun _h => ?_ | with_reducible refine alt_intro ?_ fun _h => ?_ | with_reducible refine pickD_nil ?_ | (with_reducible refine brc (fun _h => ?_) fun _h => ?_) <;> first | (exfalso; omega) | simp only [decide_eq_false _h] | simp only [(_h : (_ : Bool) = _)] | simp only [decide_eq_true _h] | skip)
      exact h2.symm

theorem idxG_any (p : Gram → Bool) : ∀ (l : List Gram) (i : Int), 0 ≤ i → (0 ≤ idxG p i l ↔ l.any p = true) ∧ -1 ≤ idxG p i l
  | [], i, h => by simp [idxG]
  | s :: l, i, h => by
    have := idxG_any p l (i + 1) (by omega)
    rw [idxG]
    by_cases hp : p s = true
    · rw [if_pos hp]; simp [hp]; omega
    · rw [if_neg hp]; simp [hp]; simpa using this
/-- slices.ContainsFunc[[]ablaut/api.Gram,ablaut/api.Gram]: 2 parameters, 0 captured -/
def s95 : SC := .seq (.reg [o1 4 (.mv (cB false))])
  (.seq (.reg [o1 5 (.mv (.t 0)),
    o1 6 (.mv (.t 1)),
    o1 7 (.call (.f 119) [(.t 5), (.t 6)]),
    o1 8 (.bin .geq (.t 7) (cI 0)),
    o1 4 (.mv (.t 8))])
   (.ret))
theorem s95_ok : lookF Try.prog 95 = some (s95, 9, [.tmp 4]) := by kernel_rfl
theorem containsFuncG_ok (p : Gram → Bool) (f : Nat) (l : List Gram) (hf : ∀ g ∈ l, Fn P f [gramA g] (boolA (p g))) (hl : l.length ≤ 8796093022208) : Fn P 95 [sl l, .clo f []] (boolA (l.any p)) := by
  have c1 := indexFuncG_ok p f l hf hl
  have h := (idxG_any p l 0 (by omega)).1
  (refine fn_look s95_ok (by simp) (by intro k; simp only [go_sem, Nat.reduceEqDiff, ↓reduceIte, reduceCtorEq, Nat.reduceAdd, Nat.reduceMul, Int.reduceToNat, List.reduceReplicate, Nat.reduceLeDiff, Nat.reduceLT, Int.reduceLT, Int.reduceLE, Int.reduceEq]) fun S hS => cwp_sound _ _ _ _ ?_; simp (maxSteps := 900000) (disch := omega) only [s95, go_sem, Nat.reduceEqDiff, ↓reduceIte, reduceCtorEq, Nat.reduceAdd, Nat.reduceMul, Int.reduceToNat, List.reduceReplicate, Nat.reduceLeDiff, Nat.reduceLT, Int.reduceLT, Int.reduceLE, Int.reduceEq])
  repeat' (first | with_reducible refine inw ?_ | simp (maxSteps := 900000) (disch := omega) only [go_sem, Nat.reduceEqDiff, ↓reduceIte, reduceCtorEq, Nat.reduceAdd, Nat.reduceMul, Int.reduceToNat, List.reduceReplicate, Nat.reduceLeDiff, Nat.reduceLT, Int.reduceLT, Int.reduceLE, Int.reduceEq] | (with_reducible apply call (c1)); (focus simp (maxSteps := 900000) (disch := omega) only [go_sem, Nat.reduceEqDiff, ↓reduceIte, reduceCtorEq, Nat.reduceAdd, Nat.reduceMul, Int.reduceToNat, List.reduceReplicate, Nat.reduceLeDiff, Nat.reduceLT, Int.reduceLT, Int.reduceLE, Int.reduceEq] <;> rfl) | with_reducible refine pickB_f ?_ | with_reducible refine giv_intro fun _h => ?_ | with_reducible refine alt_intro ?_ fun _h => ?_ | with_reducible refine pickD_nil ?_ | (with_reducible refine brc (fun _h => ?_) fun _h => ?_) <;> first | (exfalso; omega) | simp only [decide_eq_false _h] | simp only [(_h : (_ : Bool) = _)] | simp only [decide_eq_true _h] | skip)
  rw [Bool.eq_iff_iff, decide_eq_true_iff]; exact h
/-- ablaut/tally.grams$1: 1 parameters, 0 captured -/
def s109 : SC := .seq (.reg [o1 1 (.box 89 2 (.t 0)),
   o1 2 (.mv (cB false))])
  (.seq (.reg [o1 3 (.faddr 0 (.t 1)),
    o1 4 (.load none (.t 3)),
    o1 5 (.call (.f 85) [(.t 4), (.f 86)]),
    o1 2 (.mv (.t 5))])
   (.ret))
theorem s109_ok : lookF Try.prog 109 = some (s109, 6, [.tmp 2]) := by kernel_rfl
theorem gramLong_ok (g : Gram) (hl : g.1.length ≤ 8796093022208) : Fn P 109 [gramA g] (boolA (anyLong g.1)) := by
  have c1 := containsFunc_ok (fun s => decide (400 < s.size)) 86 isLong_ok g.1 hl
  (refine fn_look s109_ok (by simp) (by intro k; simp only [go_sem, Nat.reduceEqDiff, ↓reduceIte, reduceCtorEq, Nat.reduceAdd, Nat.reduceMul, Int.reduceToNat, List.reduceReplicate, Nat.reduceLeDiff, Nat.reduceLT, Int.reduceLT, Int.reduceLE, Int.reduceEq]) fun S hS => cwp_sound _ _ _ _ ?_; simp (maxSteps := 900000) (disch := omega) only [s109, go_sem, Nat.reduceEqDiff, ↓reduceIte, reduceCtorEq, Nat.reduceAdd, Nat.reduceMul, Int.reduceToNat, List.reduceReplicate, Nat.reduceLeDiff, Nat.reduceLT, Int.reduceLT, Int.reduceLE, Int.reduceEq])
  repeat' (first | with_reducible refine inw ?_ | simp (maxSteps := 900000) (disch := omega) only [go_sem, Nat.reduceEqDiff, ↓reduceIte, reduceCtorEq, Nat.reduceAdd, Nat.reduceMul, Int.reduceToNat, List.reduceReplicate, Nat.reduceLeDiff, Nat.reduceLT, Int.reduceLT, Int.reduceLE, Int.reduceEq] | (with_reducible apply call (c1)); (focus simp (maxSteps := 900000) (disch := omega) only [go_sem, Nat.reduceEqDiff, ↓reduceIte, reduceCtorEq, Nat.reduceAdd, Nat.reduceMul, Int.reduceToNat, List.reduceReplicate, Nat.reduceLeDiff, Nat.reduceLT, Int.reduceLT, Int.reduceLE, Int.reduceEq] <;> rfl) | with_reducible refine pickB_f ?_ | with_reducible refine giv_intro fun _h => ?_ | with_reducible refine alt_intro ?_ fun _h => ?_ | with_reducible refine pickD_nil ?_ | (with_reducible refine brc (fun _h => ?_) fun _h => ?_) <;> first | (exfalso; omega) | simp only [decide_eq_false _h] | simp only [(_h : (_ : Bool) = _)] | simp only [decide_eq_true _h] | skip)
  rfl

def badG (l : List Gram) (i : Nat) : Bool :=
  decide ((nth l i).1.length < 1) || decide (4 < (nth l i).1.length) || !decide ((nth l i).1.length = (nth l 0).1.length) || decide ((nth l i).2 < 1) || decide (1000 < (nth l i).2) || (decide (0 < i) && decide (0 ≤ cmpL (nth l (i - 1)).1 (nth l i).1))
def givenE (l : List Gram) : Int := if (List.range l.length).any (badG l) = true then 1 else 0
theorem given_1 {l : List Gram} {i : Nat} (hi : i < l.length) (h : badG l i = true) : 1 = givenE l := by
  rw [givenE, if_pos]; exact List.any_eq_true.2 ⟨i, List.mem_range.2 hi, h⟩
theorem given_0 {l : List Gram} (h : ∀ j, j < l.length → badG l j = false) : 0 = givenE l := by
  rw [givenE, if_neg]; intro h2
  obtain ⟨j, h3, h4⟩ := List.any_eq_true.1 h2
  rw [h j (List.mem_range.1 h3)] at h4; cases h4
/-- ablaut/tally.grams: 1 parameters, 0 captured -/
def s68 : SC := .seq (.reg [o1 2 (.mv (cI 0))])
  (.seq (.seq (.reg [o1 5 (.mv (.t 0)),
     o1 6 (.lenL (.t 5)),
     o1 7 (.bin .gtr (.t 6) (cI 200)),
     o1 8 (.mv (.t 7)),
     oF 9 (.mv (.t 0)) 8,
     oF 10 (.call (.f 95) [(.t 9), (.f 109)]) 8,
     o1 11 (.pick (.t 8) (cB true) (.t 10))])
    (.cond (.t 11) (.seq (.reg [o1 2 (.mv (cI 3))])
      (.ret)) (.skip)))
   (.seq (.seq (.reg [o1 12 (.mv (.t 0)),
      o1 13 (.lenL (.t 12)),
      o1 14 (.mv (cI 0))])
     (.block 0 (.loop (.seq (.reg [o1 15 (.bin .lss (.t 14) (.t 13))])
        (.seq (.cond (.t 15) (.skip) (.exit 0))
         (.seq (.block 1 (.seq (.reg [o1 16 (.mv (.t 14)),
             o1 17 (.iaddr 2 (.t 12) (.t 14)),
             o1 18 (.load (some 2) (.t 17)),
             o1 4 (.alloc 89 2 [(.slice none 0 0), (.int .i64 0)]),
             o1 3 (.mv (.t 16)),
             o0 (.store 2 (.t 4) (.t 18))])
            (.seq (.regC [o1 19 (.faddr 0 (.t 4)),
              o1 20 (.load none (.t 19)),
              o1 21 (.lenL (.t 20)),
              o1 22 (.bin .lss (.t 21) (cI 1)),
              o1 23 (.mv (.t 22)),
              oF 24 (.faddr 0 (.t 4)) 23,
              oF 25 (.load none (.t 24)) 23,
              oF 26 (.lenL (.t 25)) 23,
              oF 27 (.bin .gtr (.t 26) (cI 4)) 23,
              o1 28 (.pick (.t 23) (cB true) (.t 27)),
              o1 29 (.mv (.t 28)),
              oF 30 (.faddr 0 (.t 4)) 29,
              oF 31 (.load none (.t 30)) 29,
              oF 32 (.lenL (.t 31)) 29,
              oF 33 (.mv (.t 0)) 29,
              oF 34 (.iaddr 2 (.t 33) (cI 0)) 29,
              oF 35 (.faddr 0 (.t 34)) 29,
              oF 36 (.load none (.t 35)) 29,
              oF 37 (.lenL (.t 36)) 29,
              oF 38 (.bin .neq (.t 32) (.t 37)) 29,
              o1 39 (.pick (.t 29) (cB true) (.t 38)),
              o1 40 (.mv (.t 39)),
              oF 41 (.faddr 1 (.t 4)) 40,
              oF 42 (.load none (.t 41)) 40,
              oF 43 (.bin .lss (.t 42) (cI 1)) 40,
              o1 44 (.pick (.t 40) (cB true) (.t 43)),
              o1 45 (.mv (.t 44)),
              oF 46 (.faddr 1 (.t 4)) 45,
              oF 47 (.load none (.t 46)) 45,
              oF 48 (.bin .gtr (.t 47) (cI 1000)) 45,
              o1 49 (.pick (.t 45) (cB true) (.t 48)),
              o1 50 (.mv (.t 49)),
              oF 51 (.mv (.t 3)) 50,
              oF 52 (.bin .gtr (.t 51) (cI 0)) 50,
              oF 53 (.mv (.t 52)) 50,
              oT 54 (.mv (.t 0)) 53,
              oT 55 (.mv (.t 3)) 53,
              oT 56 (.bin .sub (.t 55) (cI 1)) 53,
              oT 57 (.iaddr 2 (.t 54) (.t 56)) 53,
              oT 58 (.faddr 0 (.t 57)) 53,
              oT 59 (.load none (.t 58)) 53,
              oT 60 (.faddr 0 (.t 4)) 53,
              oT 61 (.load none (.t 60)) 53,
              oT 62 (.call (.f 88) [(.t 59), (.t 61)]) 53,
              oT 63 (.bin .geq (.t 62) (cI 0)) 53,
              oF 64 (.pick (.t 53) (.t 63) (cB false)) 50,
              o1 65 (.pick (.t 50) (cB true) (.t 64))])
             (.cond (.t 65) (.seq (.reg [o1 2 (.mv (cI 1))])
               (.ret)) (.skip)))))
          (.reg [o1 66 (.bin .add (.t 14) (cI 1)),
           o1 14 (.mv (.t 66))])))))))
    (.seq (.reg [o1 2 (.mv (cI 0))])
     (.ret))))
theorem s68_ok : lookF Try.prog 68 = some (s68, 67, [.tmp 2]) := by kernel_rfl
set_option maxHeartbeats 1000000 in
theorem tGrams_ok (l : List Gram) (hl : l.length ≤ 200) (hs : ∀ g ∈ l, g.1.length ≤ 8796093022208) (ha : l.any (fun g => anyLong g.1) = false) : Fn P 68 [sl l] (intA (givenE l)) := by
  have c1 := containsFuncG_ok (fun g => anyLong g.1) 109 l (fun g hg => gramLong_ok g (hs g hg)) (by omega)
  rw [ha] at c1
  (refine fn_look s68_ok (by simp) (by intro k; simp only [go_sem, Nat.reduceEqDiff, ↓reduceIte, reduceCtorEq, Nat.reduceAdd, Nat.reduceMul, Int.reduceToNat, List.reduceReplicate, Nat.reduceLeDiff, Nat.reduceLT, Int.reduceLT, Int.reduceLE, Int.reduceEq]) fun S hS => cwp_sound _ _ _ _ ?_; simp (maxSteps := 900000) (disch := omega) only [s68, go_sem, Nat.reduceEqDiff, ↓reduceIte, reduceCtorEq, Nat.reduceAdd, Nat.reduceMul, Int.reduceToNat, List.reduceReplicate, Nat.reduceLeDiff, Nat.reduceLT, Int.reduceLT, Int.reduceLE, Int.reduceEq])
  repeat' (first | with_reducible refine inw ?_ | simp (maxSteps := 900000) (disch := omega) only [go_sem, Nat.reduceEqDiff, ↓reduceIte, reduceCtorEq, Nat.reduceAdd, Nat.reduceMul, Int.reduceToNat, List.reduceReplicate, Nat.reduceLeDiff, Nat.reduceLT, Int.reduceLT, Int.reduceLE, Int.reduceEq] | (with_reducible apply call (c1)); (focus simp (maxSteps := 900000) (disch := omega) only [go_sem, Nat.reduceEqDiff, ↓reduceIte, reduceCtorEq, Nat.reduceAdd, Nat.reduceMul, Int.reduceToNat, List.reduceReplicate, Nat.reduceLeDiff, Nat.reduceLT, Int.reduceLT, Int.reduceLE, Int.reduceEq] <;> rfl) | with_reducible refine pickB_f ?_ | with_reducible refine giv_intro fun _h => ?_ | with_reducible refine alt_intro ?_ fun _h => ?_ | with_reducible refine pickD_nil ?_ | (with_reducible refine brc (fun _h => ?_) fun _h => ?_) <;> first | (exfalso; omega) | simp only [decide_eq_false _h] | simp only [(_h : (_ : Bool) = _)] | simp only [decide_eq_true _h] | skip)
  (refine loopC hS [0, 12, 13] (by simp only [go_sem, Nat.reduceEqDiff, ↓reduceIte, reduceCtorEq, Nat.reduceAdd, Nat.reduceMul, Int.reduceToNat, List.reduceReplicate, Nat.reduceLeDiff, Nat.reduceLT, Int.reduceLT, Int.reduceLE, Int.reduceEq]; try rfl) (fun (i : Nat) => [(14, intA i)]) (fun (i : Nat) => []) (fun (i : Nat) => i ≤ l.length ∧ ∀ j, j < i → badG l j = false) (fun (i : Nat) => l.length - i) (0) ?_ (by intro s; first | rfl | (rcases s with ⟨_, _⟩; rfl) | (rcases s with ⟨_, _, _⟩; rfl) | (rcases s with ⟨_, _, _, _⟩; rfl) | (rcases s with ⟨_, _, _, _, _⟩; rfl)) ?_)
  · simp (maxSteps := 900000) (disch := omega) only [go_sem, Nat.reduceEqDiff, ↓reduceIte, reduceCtorEq, Nat.reduceAdd, Nat.reduceMul, Int.reduceToNat, List.reduceReplicate, Nat.reduceLeDiff, Nat.reduceLT, Int.reduceLT, Int.reduceLE, Int.reduceEq]; exact ⟨Nat.zero_le _, fun j hj => by omega⟩
  · rintro i ⟨h1, h2⟩
    replace h1 : i ≤ l.length := h1
    replace h2 : ∀ j, j < i → badG l j = false := h2
    by_cases hi : i < l.length
    · have h00 : 0 < l.length := by omega
      have hp : i = 0 ∨ i - 1 < l.length := by omega
      have e1 : ((i : Int) - 1).toNat = i - 1 := by omega
      have c2 := slCompare_ok (nth l (i - 1)).1 (nth l i).1 (hs _ (nth_mem (by omega))) (hs _ (nth_mem hi))
      have e0 : (cellsL l).head? = some (sl (nth l 0).1) := by
        cases l with
        | nil => simp at hi
        | cons g l => rfl
      repeat' (first | with_reducible refine inw ?_ | simp (maxSteps := 900000) (disch := omega) only [go_sem, Nat.reduceEqDiff, ↓reduceIte, reduceCtorEq, Nat.reduceAdd, Nat.reduceMul, Int.reduceToNat, List.reduceReplicate, Nat.reduceLeDiff, Nat.reduceLT, Int.reduceLT, Int.reduceLE, Int.reduceEq, e1, e0] | (with_reducible apply call_D (c2)); (focus simp (maxSteps := 900000) (disch := omega) only [go_sem, Nat.reduceEqDiff, ↓reduceIte, reduceCtorEq, Nat.reduceAdd, Nat.reduceMul, Int.reduceToNat, List.reduceReplicate, Nat.reduceLeDiff, Nat.reduceLT, Int.reduceLT, Int.reduceLE, Int.reduceEq, e1, e0] <;> rfl) | with_reducible refine pickB_f ?_ | with_reducible refine giv_intro fun _h => ?_ | with_reducible refine alt_intro ?_ fun _h => ?_ | with_reducible refine pickD_nil ?_ | (with_reducible refine brc (fun _h => ?_) fun _h => ?_) <;> first | (exfalso; omega) | simp only [decide_eq_false _h] | simp only [(_h : (_ : Bool) = _)] | simp only [decide_eq_true _h] | skip)
      all_goals (first | (refine given_1 hi ?_; simp only [badG, Bool.or_eq_true, Bool.and_eq_true, decide_eq_true_eq, Bool.not_eq_true', decide_eq_false_iff_not]; omega) | skip)
      all_goals
        refine ⟨i + 1, ⟨by omega, by omega, fun j hj => ?_⟩, rfl⟩
        by_cases e : j = i
        · rw [e, ← Bool.not_eq_true]; simp only [badG, Bool.or_eq_true, Bool.and_eq_true, decide_eq_true_eq, Bool.not_eq_true', decide_eq_false_iff_not]; omega
        · exact h2 j (by omega)
    · repeat' (first | with_reducible refine inw ?_ | simp (maxSteps := 900000) (disch := omega) only [go_sem, Nat.reduceEqDiff, ↓reduceIte, reduceCtorEq, Nat.reduceAdd, Nat.reduceMul, Int.reduceToNat, List.reduceReplicate, Nat.reduceLeDiff, Nat.reduceLT, Int.reduceLT, Int.reduceLE, Int.reduceEq] | with_reducible refine pickB_f ?_ | with_reducible refine giv_intro fun _h => ?_ | with_reducible refine alt_intro ?_ fun _h => ?_ | with_reducible refine pickD_nil ?_ | (with_reducible refine brc (fun _h => ?_) fun _h => ?_) <;> first | (exfalso; omega) | simp only [decide_eq_false _h] | simp only [(_h : (_ : Bool) = _)] | simp only [decide_eq_true _h] | skip)
      exact given_0 fun j hj => h2 j (by omega)
end Go.Proofs.Ytedbjmonfbpefaa.Ev

/- Grams that are given: the reference's given and tally's grams, for all lists. -/
import Derived.Test.YtedbjmonfbpefaaZFnQ
import Derived.Test.YtedbjmonfbpefaaZFnR
set_option linter.unusedVariables false
set_option linter.unusedSimpArgs false
namespace Go.Proofs.Ytedbjmonfbpefaa.Ev
open Go Go.Proofs
def givenF (l : List Gram) : Int := if 200 < l.length ∨ l.any (fun g => anyLong g.1) = true then 3 else givenE l
theorem givenF_long {l : List Gram} (h : 200 < l.length) : givenF l = 3 := by rw [givenF, if_pos (.inl h)]
theorem givenF_any {l : List Gram} {i : Nat} (hi : i < l.length) (h : anyLong (nth l i).1 = true) : givenF l = 3 := by
  rw [givenF, if_pos (.inr (List.any_eq_true.2 ⟨_, nth_mem hi, h⟩))]
theorem givenF_e {l : List Gram} (h : l.length ≤ 200) (ha : ∀ j, j < l.length → anyLong (nth l j).1 = false) : givenF l = givenE l := by
  rw [givenF, if_neg]
  rintro (h1 | h1)
  · omega
  · obtain ⟨g, h2, h3⟩ := List.any_eq_true.1 h1
    obtain ⟨j, hj, rfl⟩ := List.getElem_of_mem h2
    have := ha j hj
    rw [nth_eq hj] at this
    rw [this] at h3; cases h3
/-- ablaut/ablautref27.given: 1 parameters, 0 captured -/
def s70 : SC := .seq (.reg [o1 2 (.mv (cI 0))])
  (.seq (.seq (.reg [o1 6 (.mv (.t 0)),
     o1 7 (.lenL (.t 6)),
     o1 8 (.bin .gtr (.t 7) (cI 200))])
    (.cond (.t 8) (.seq (.reg [o1 2 (.mv (cI 3))])
      (.ret)) (.skip)))
   (.seq (.seq (.reg [o1 3 (.mv (cI 0))])
     (.block 0 (.loop (.seq (.seq (.reg [o1 9 (.mv (.t 3)),
          o1 10 (.mv (.t 0)),
          o1 11 (.lenL (.t 10)),
          o1 12 (.bin .lss (.t 9) (.t 11))])
         (.cond (.t 12) (.skip) (.exit 0)))
        (.seq (.block 1 (.seq (.reg [o1 15 (.mv (.t 0)),
            o1 16 (.mv (.t 3)),
            o1 17 (.iaddr 2 (.t 15) (.t 16)),
            o1 18 (.faddr 0 (.t 17)),
            o1 19 (.load none (.t 18)),
            o1 20 (.call (.f 90) [(.t 19)])])
           (.cond (.t 20) (.seq (.reg [o1 2 (.mv (cI 3))])
             (.ret)) (.skip))))
         (.reg [o1 13 (.mv (.t 3)),
          o1 14 (.bin .add (.t 13) (cI 1)),
          o1 3 (.mv (.t 14))]))))))
    (.seq (.seq (.reg [o1 4 (.mv (cI 0))])
      (.block 2 (.loop (.seq (.seq (.reg [o1 21 (.mv (.t 4)),
           o1 22 (.mv (.t 0)),
           o1 23 (.lenL (.t 22)),
           o1 24 (.bin .lss (.t 21) (.t 23))])
          (.cond (.t 24) (.skip) (.exit 2)))
         (.seq (.block 3 (.seq (.reg [o1 27 (.mv (.t 0)),
             o1 28 (.mv (.t 4)),
             o1 29 (.iaddr 2 (.t 27) (.t 28)),
             o1 30 (.faddr 0 (.t 29)),
             o1 31 (.load none (.t 30)),
             o1 32 (.lenL (.t 31)),
             o1 5 (.mv (.t 32))])
            (.seq (.regC [o1 33 (.mv (.t 5)),
              o1 34 (.bin .lss (.t 33) (cI 1)),
              o1 35 (.mv (.t 34)),
              oF 36 (.mv (.t 5)) 35,
              oF 37 (.bin .gtr (.t 36) (cI 4)) 35,
              o1 38 (.pick (.t 35) (cB true) (.t 37)),
              o1 39 (.mv (.t 38)),
              oF 40 (.mv (.t 5)) 39,
              oF 41 (.mv (.t 0)) 39,
              oF 42 (.iaddr 2 (.t 41) (cI 0)) 39,
              oF 43 (.faddr 0 (.t 42)) 39,
              oF 44 (.load none (.t 43)) 39,
              oF 45 (.lenL (.t 44)) 39,
              oF 46 (.bin .neq (.t 40) (.t 45)) 39,
              o1 47 (.pick (.t 39) (cB true) (.t 46)),
              o1 48 (.mv (.t 47)),
              oF 49 (.mv (.t 0)) 48,
              oF 50 (.mv (.t 4)) 48,
              oF 51 (.iaddr 2 (.t 49) (.t 50)) 48,
              oF 52 (.faddr 1 (.t 51)) 48,
              oF 53 (.load none (.t 52)) 48,
              oF 54 (.bin .lss (.t 53) (cI 1)) 48,
              o1 55 (.pick (.t 48) (cB true) (.t 54)),
              o1 56 (.mv (.t 55)),
              oF 57 (.mv (.t 0)) 56,
              oF 58 (.mv (.t 4)) 56,
              oF 59 (.iaddr 2 (.t 57) (.t 58)) 56,
              oF 60 (.faddr 1 (.t 59)) 56,
              oF 61 (.load none (.t 60)) 56,
              oF 62 (.bin .gtr (.t 61) (cI 1000)) 56,
              o1 63 (.pick (.t 56) (cB true) (.t 62)),
              o1 64 (.mv (.t 63)),
              oF 65 (.mv (.t 4)) 64,
              oF 66 (.bin .gtr (.t 65) (cI 0)) 64,
              oF 67 (.mv (.t 66)) 64,
              oT 68 (.mv (.t 0)) 67,
              oT 69 (.mv (.t 4)) 67,
              oT 70 (.bin .sub (.t 69) (cI 1)) 67,
              oT 71 (.iaddr 2 (.t 68) (.t 70)) 67,
              oT 72 (.faddr 0 (.t 71)) 67,
              oT 73 (.load none (.t 72)) 67,
              oT 74 (.mv (.t 0)) 67,
              oT 75 (.mv (.t 4)) 67,
              oT 76 (.iaddr 2 (.t 74) (.t 75)) 67,
              oT 77 (.faddr 0 (.t 76)) 67,
              oT 78 (.load none (.t 77)) 67,
              oT 79 (.call (.f 110) [(.t 73), (.t 78)]) 67,
              oT 80 (.bin .geq (.t 79) (cI 0)) 67,
              oF 81 (.pick (.t 67) (.t 80) (cB false)) 64,
              o1 82 (.pick (.t 64) (cB true) (.t 81))])
             (.cond (.t 82) (.seq (.reg [o1 2 (.mv (cI 1))])
               (.ret)) (.skip)))))
          (.reg [o1 25 (.mv (.t 4)),
           o1 26 (.bin .add (.t 25) (cI 1)),
           o1 4 (.mv (.t 26))]))))))
     (.seq (.reg [o1 2 (.mv (cI 0))])
      (.ret)))))
theorem s70_ok : lookF Try.prog 70 = some (s70, 83, [.tmp 2]) := by kernel_rfl
set_option maxHeartbeats 1000000 in
theorem rGiven_ok (l : List Gram) (hs : ∀ g ∈ l, g.1.length ≤ 8796093022208) : Fn P 70 [sl l] (intA (givenF l)) := by
  (refine fn_look s70_ok (by simp) (by intro k; simp only [go_sem, Nat.reduceEqDiff, ↓reduceIte, reduceCtorEq, Nat.reduceAdd, Nat.reduceMul, Int.reduceToNat, List.reduceReplicate, Nat.reduceLeDiff, Nat.reduceLT, Int.reduceLT, Int.reduceLE, Int.reduceEq]) fun S hS => cwp_sound _ _ _ _ ?_; simp (maxSteps := 900000) (disch := omega) only [s70, go_sem, Nat.reduceEqDiff, ↓reduceIte, reduceCtorEq, Nat.reduceAdd, Nat.reduceMul, Int.reduceToNat, List.reduceReplicate, Nat.reduceLeDiff, Nat.reduceLT, Int.reduceLT, Int.reduceLE, Int.reduceEq])
  repeat' (first | with_reducible refine inw ?_ | simp (maxSteps := 900000) (disch := omega) only [go_sem, Nat.reduceEqDiff, ↓reduceIte, reduceCtorEq, Nat.reduceAdd, Nat.reduceMul, Int.reduceToNat, List.reduceReplicate, Nat.reduceLeDiff, Nat.reduceLT, Int.reduceLT, Int.reduceLE, Int.reduceEq] | with_reducible refine pickB_f ?_ | with_reducible refine giv_intro fun _h => ?_ | with_reducible refine alt_intro ?_ fun _h => ?_ | with_reducible refine pickD_nil ?_ | (with_reducible refine brc (fun _h => ?_) fun _h => ?_) <;> first | (exfalso; omega) | simp only [decide_eq_false _h] | simp only [(_h : (_ : Bool) = _)] | simp only [decide_eq_true _h] | skip)
  · rw [givenF_long (by omega)]
  (refine loopC hS [0] (by simp only [go_sem, Nat.reduceEqDiff, ↓reduceIte, reduceCtorEq, Nat.reduceAdd, Nat.reduceMul, Int.reduceToNat, List.reduceReplicate, Nat.reduceLeDiff, Nat.reduceLT, Int.reduceLT, Int.reduceLE, Int.reduceEq]; try rfl) (fun (i : Nat) => [(3, intA i)]) (fun (i : Nat) => []) (fun (i : Nat) => i ≤ l.length ∧ ∀ j, j < i → anyLong (nth l j).1 = false) (fun (i : Nat) => l.length - i) (0) ?_ (by intro s; first | rfl | (rcases s with ⟨_, _⟩; rfl) | (rcases s with ⟨_, _, _⟩; rfl) | (rcases s with ⟨_, _, _, _⟩; rfl) | (rcases s with ⟨_, _, _, _, _⟩; rfl)) ?_)
  · simp (maxSteps := 900000) (disch := omega) only [go_sem, Nat.reduceEqDiff, ↓reduceIte, reduceCtorEq, Nat.reduceAdd, Nat.reduceMul, Int.reduceToNat, List.reduceReplicate, Nat.reduceLeDiff, Nat.reduceLT, Int.reduceLT, Int.reduceLE, Int.reduceEq]; exact ⟨Nat.zero_le _, fun j hj => by omega⟩
  · rintro i ⟨h1, h0⟩
    replace h1 : i ≤ l.length := h1
    replace h0 : ∀ j, j < i → anyLong (nth l j).1 = false := h0
    by_cases hi : i < l.length
    · have c1 := rAnyLong_ok (nth l i).1 (hs _ (nth_mem hi))
      repeat' (first | with_reducible refine inw ?_ | simp (maxSteps := 900000) (disch := omega) only [go_sem, Nat.reduceEqDiff, ↓reduceIte, reduceCtorEq, Nat.reduceAdd, Nat.reduceMul, Int.reduceToNat, List.reduceReplicate, Nat.reduceLeDiff, Nat.reduceLT, Int.reduceLT, Int.reduceLE, Int.reduceEq] | (with_reducible apply call (c1)); (focus simp (maxSteps := 900000) (disch := omega) only [go_sem, Nat.reduceEqDiff, ↓reduceIte, reduceCtorEq, Nat.reduceAdd, Nat.reduceMul, Int.reduceToNat, List.reduceReplicate, Nat.reduceLeDiff, Nat.reduceLT, Int.reduceLT, Int.reduceLE, Int.reduceEq] <;> rfl) | with_reducible refine pickB_f ?_ | with_reducible refine giv_intro fun _h => ?_ | with_reducible refine alt_intro ?_ fun _h => ?_ | with_reducible refine pickD_nil ?_ | (with_reducible refine brc (fun _h => ?_) fun _h => ?_) <;> first | (exfalso; omega) | simp only [decide_eq_false _h] | simp only [(_h : (_ : Bool) = _)] | simp only [decide_eq_true _h] | skip)
      · rw [givenF_any hi _h]
      · refine ⟨i + 1, ⟨by omega, by omega, fun j hj => ?_⟩, rfl⟩
        by_cases e : j = i
        · rw [e]; exact _h
        · exact h0 j (by omega)
    · have hg := givenF_e (l := l) (by omega) fun j hj => h0 j (by omega)
      rw [hg]
      repeat' (first | with_reducible refine inw ?_ | simp (maxSteps := 900000) (disch := omega) only [go_sem, Nat.reduceEqDiff, ↓reduceIte, reduceCtorEq, Nat.reduceAdd, Nat.reduceMul, Int.reduceToNat, List.reduceReplicate, Nat.reduceLeDiff, Nat.reduceLT, Int.reduceLT, Int.reduceLE, Int.reduceEq] | with_reducible refine pickB_f ?_ | with_reducible refine giv_intro fun _h => ?_ | with_reducible refine alt_intro ?_ fun _h => ?_ | with_reducible refine pickD_nil ?_ | (with_reducible refine brc (fun _h => ?_) fun _h => ?_) <;> first | (exfalso; omega) | simp only [decide_eq_false _h] | simp only [(_h : (_ : Bool) = _)] | simp only [decide_eq_true _h] | skip)
      (refine loopC hS [0] (by simp only [go_sem, Nat.reduceEqDiff, ↓reduceIte, reduceCtorEq, Nat.reduceAdd, Nat.reduceMul, Int.reduceToNat, List.reduceReplicate, Nat.reduceLeDiff, Nat.reduceLT, Int.reduceLT, Int.reduceLE, Int.reduceEq]; try rfl) (fun (i : Nat) => [(4, intA i)]) (fun (i : Nat) => []) (fun (i : Nat) => i ≤ l.length ∧ ∀ j, j < i → badG l j = false) (fun (i : Nat) => l.length - i) (0) ?_ (by intro s; first | rfl | (rcases s with ⟨_, _⟩; rfl) | (rcases s with ⟨_, _, _⟩; rfl) | (rcases s with ⟨_, _, _, _⟩; rfl) | (rcases s with ⟨_, _, _, _, _⟩; rfl)) ?_)
      · simp (maxSteps := 900000) (disch := omega) only [go_sem, Nat.reduceEqDiff, ↓reduceIte, reduceCtorEq, Nat.reduceAdd, Nat.reduceMul, Int.reduceToNat, List.reduceReplicate, Nat.reduceLeDiff, Nat.reduceLT, Int.reduceLT, Int.reduceLE, Int.reduceEq]; exact ⟨Nat.zero_le _, fun j hj => by omega⟩
      · rintro i ⟨h1, h2⟩
        replace h1 : i ≤ l.length := h1
        replace h2 : ∀ j, j < i → badG l j = false := h2
        by_cases hi : i < l.length
        · have h00 : 0 < l.length := by omega
          have hp : i = 0 ∨ i - 1 < l.length := by omega
          have e1 : ((i : Int) - 1).toNat = i - 1 := by omega
          have c2 := rOrder_ok (nth l (i - 1)).1 (nth l i).1 (hs _ (nth_mem (by omega))) (hs _ (nth_mem hi))
          have e0 : (cellsL l).head? = some (sl (nth l 0).1) := by
            cases l with
            | nil => simp at hi
            | cons g l => rfl
          have e3 : (List.drop 1 (cellsL (List.drop i l))).head? = some (intA (nth l i).2) := by rw [nth_drop hi]; rfl
          repeat' (first | with_reducible refine inw ?_ | simp (maxSteps := 900000) (disch := omega) only [go_sem, Nat.reduceEqDiff, ↓reduceIte, reduceCtorEq, Nat.reduceAdd, Nat.reduceMul, Int.reduceToNat, List.reduceReplicate, Nat.reduceLeDiff, Nat.reduceLT, Int.reduceLT, Int.reduceLE, Int.reduceEq, e1, e0, e3] | (with_reducible apply call_D (c2)); (focus simp (maxSteps := 900000) (disch := omega) only [go_sem, Nat.reduceEqDiff, ↓reduceIte, reduceCtorEq, Nat.reduceAdd, Nat.reduceMul, Int.reduceToNat, List.reduceReplicate, Nat.reduceLeDiff, Nat.reduceLT, Int.reduceLT, Int.reduceLE, Int.reduceEq, e1, e0, e3] <;> rfl) | with_reducible refine pickB_f ?_ | with_reducible refine giv_intro fun _h => ?_ | with_reducible refine alt_intro ?_ fun _h => ?_ | with_reducible refine pickD_nil ?_ | (with_reducible refine brc (fun _h => ?_) fun _h => ?_) <;> first | (exfalso; omega) | simp only [decide_eq_false _h] | simp only [(_h : (_ : Bool) = _)] | simp only [decide_eq_true _h] | skip)
          all_goals (first | (refine given_1 hi ?_; simp only [badG, Bool.or_eq_true, Bool.and_eq_true, decide_eq_true_eq, Bool.not_eq_true', decide_eq_false_iff_not]; omega) | skip)
          all_goals
            refine ⟨i + 1, ⟨by omega, by omega, fun j hj => ?_⟩, rfl⟩
            by_cases e : j = i
            · rw [e, ← Bool.not_eq_true]; simp only [badG, Bool.or_eq_true, Bool.and_eq_true, decide_eq_true_eq, Bool.not_eq_true', decide_eq_false_iff_not]; omega
            · exact h2 j (by omega)
        · repeat' (first | with_reducible refine inw ?_ | simp (maxSteps := 900000) (disch := omega) only [go_sem, Nat.reduceEqDiff, ↓reduceIte, reduceCtorEq, Nat.reduceAdd, Nat.reduceMul, Int.reduceToNat, List.reduceReplicate, Nat.reduceLeDiff, Nat.reduceLT, Int.reduceLT, Int.reduceLE, Int.reduceEq] | with_reducible refine pickB_f ?_ | with_reducible refine giv_intro fun _h => ?_ | with_reducible refine alt_intro ?_ fun _h => ?_ | with_reducible refine pickD_nil ?_ | (with_reducible refine brc (fun _h => ?_) fun _h => ?_) <;> first | (exfalso; omega) | simp only [decide_eq_false _h] | simp only [(_h : (_ : Bool) = _)] | simp only [decide_eq_true _h] | skip)
          exact given_0 fun j hj => h2 j (by omega)

/-- tally.grams of any list. -/
theorem tGramsF_ok (l : List Gram) (hs : ∀ g ∈ l, g.1.length ≤ 8796093022208) : Fn P 68 [sl l] (intA (givenF l)) := by
  by_cases hl : l.length ≤ 200
  · cases ha : l.any (fun g => anyLong g.1) with
    | false =>
      have := tGrams_ok l hl hs ha
      rwa [givenF, if_neg (by rw [ha]; simp; omega)]
    | true =>
      have c1 := containsFuncG_ok (fun g => anyLong g.1) 109 l (fun g hg => gramLong_ok g (hs g hg)) (by omega)
      rw [ha] at c1
      rw [givenF, if_pos (.inr ha)]
      (refine fn_look s68_ok (by simp) (by intro k; simp only [go_sem, Nat.reduceEqDiff, ↓reduceIte, reduceCtorEq, Nat.reduceAdd, Nat.reduceMul, Int.reduceToNat, List.reduceReplicate, Nat.reduceLeDiff, Nat.reduceLT, Int.reduceLT, Int.reduceLE, Int.reduceEq]) fun S hS => cwp_sound _ _ _ _ ?_; simp (maxSteps := 900000) (disch := omega) only [s68, go_sem, Nat.reduceEqDiff, ↓reduceIte, reduceCtorEq, Nat.reduceAdd, Nat.reduceMul, Int.reduceToNat, List.reduceReplicate, Nat.reduceLeDiff, Nat.reduceLT, Int.reduceLT, Int.reduceLE, Int.reduceEq])
      repeat' (first | with_reducible refine inw ?_ | simp (maxSteps := 900000) (disch := omega) only [go_sem, Nat.reduceEqDiff, ↓reduceIte, reduceCtorEq, Nat.reduceAdd, Nat.reduceMul, Int.reduceToNat, List.reduceReplicate, Nat.reduceLeDiff, Nat.reduceLT, Int.reduceLT, Int.reduceLE, Int.reduceEq] | (with_reducible apply call (c1)); (focus simp (maxSteps := 900000) (disch := omega) only [go_sem, Nat.reduceEqDiff, ↓reduceIte, reduceCtorEq, Nat.reduceAdd, Nat.reduceMul, Int.reduceToNat, List.reduceReplicate, Nat.reduceLeDiff, Nat.reduceLT, Int.reduceLT, Int.reduceLE, Int.reduceEq] <;> rfl) | with_reducible refine pickB_f ?_ | with_reducible refine giv_intro fun _h => ?_ | with_reducible refine alt_intro ?_ fun _h => ?_ | with_reducible refine pickD_nil ?_ | (with_reducible refine brc (fun _h => ?_) fun _h => ?_) <;> first | (exfalso; omega) | simp only [decide_eq_false _h] | simp only [(_h : (_ : Bool) = _)] | simp only [decide_eq_true _h] | skip)
  · rw [givenF_long (by omega)]
    (refine fn_look s68_ok (by simp) (by intro k; simp only [go_sem, Nat.reduceEqDiff, ↓reduceIte, reduceCtorEq, Nat.reduceAdd, Nat.reduceMul, Int.reduceToNat, List.reduceReplicate, Nat.reduceLeDiff, Nat.reduceLT, Int.reduceLT, Int.reduceLE, Int.reduceEq]) fun S hS => cwp_sound _ _ _ _ ?_; simp (maxSteps := 900000) (disch := omega) only [s68, go_sem, Nat.reduceEqDiff, ↓reduceIte, reduceCtorEq, Nat.reduceAdd, Nat.reduceMul, Int.reduceToNat, List.reduceReplicate, Nat.reduceLeDiff, Nat.reduceLT, Int.reduceLT, Int.reduceLE, Int.reduceEq])
    repeat' (first | with_reducible refine inw ?_ | simp (maxSteps := 900000) (disch := omega) only [go_sem, Nat.reduceEqDiff, ↓reduceIte, reduceCtorEq, Nat.reduceAdd, Nat.reduceMul, Int.reduceToNat, List.reduceReplicate, Nat.reduceLeDiff, Nat.reduceLT, Int.reduceLT, Int.reduceLE, Int.reduceEq] | with_reducible refine pickB_f ?_ | with_reducible refine giv_intro fun _h => ?_ | with_reducible refine alt_intro ?_ fun _h => ?_ | with_reducible refine pickD_nil ?_ | (with_reducible refine brc (fun _h => ?_) fun _h => ?_) <;> first | (exfalso; omega) | simp only [decide_eq_false _h] | simp only [(_h : (_ : Bool) = _)] | simp only [decide_eq_true _h] | skip)
end Go.Proofs.Ytedbjmonfbpefaa.Ev

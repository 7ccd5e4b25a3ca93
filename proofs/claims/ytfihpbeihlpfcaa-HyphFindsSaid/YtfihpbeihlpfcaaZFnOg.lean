/- Which books there are: the reference. -/
import Derived.Test.YtfihpbeihlpfcaaZFnOf
set_option linter.unusedVariables false
set_option linter.unusedSimpArgs false
namespace Go.Proofs.Ytfihpbeihlpfcaa.Ev
open Go Go.Proofs

theorem any_no {α : Type} {l : List α} {p : α → Bool} (h : ∀ j, (hj : j < l.length) → p l[j] = false) : l.any p = false := by
  rw [List.any_eq_false]
  intro x hx
  obtain ⟨j, hj, rfl⟩ := List.getElem_of_mem hx
  rw [h j hj]; simp
theorem any_yes {α : Type} {l : List α} {p : α → Bool} {j : Nat} (hj : j < l.length) (h : p l[j] = true) : l.any p = true := List.any_eq_true.2 ⟨_, List.getElem_mem hj, h⟩
theorem midL_len (s : List Str) : (midL s).length = s.length - 2 := by rw [midL, List.length_take, List.length_drop]; omega
theorem midL_at {s : List Str} {j : Nat} (hj : j < (midL s).length) : (midL s)[j] = nth s (j + 1) := by
  have h1 := midL_len s
  simp only [midL, List.getElem_take, List.getElem_drop]
  rw [nth_eq (by omega)]; congr 1; omega
/-- ablaut/ablautref24.isPattern: 1 parameters, 0 captured -/
def s87 : SC := .seq (.reg [o1 1 (.box 33 2 (.t 0)),
   o1 2 (.mv (cB false))])
  (.seq (.seq (.reg [o1 5 (.faddr 0 (.t 1)),
     o1 6 (.load none (.t 5)),
     o1 7 (.lenL (.t 6)),
     o1 8 (.bin .eql (.t 7) (cI 0)),
     o1 9 (.mv (.t 8)),
     oF 10 (.faddr 1 (.t 1)) 9,
     oF 11 (.load none (.t 10)) 9,
     oF 12 (.lenL (.t 11)) 9,
     oF 13 (.faddr 0 (.t 1)) 9,
     oF 14 (.load none (.t 13)) 9,
     oF 15 (.lenL (.t 14)) 9,
     oF 16 (.bin .add (.t 15) (cI 1)) 9,
     oF 17 (.bin .neq (.t 12) (.t 16)) 9,
     o1 18 (.pick (.t 9) (cB true) (.t 17))])
    (.cond (.t 18) (.seq (.reg [o1 2 (.mv (cB false))])
      (.ret)) (.skip)))
   (.seq (.seq (.reg [o1 3 (.mv (cI 0))])
     (.block 0 (.loop (.seq (.seq (.reg [o1 19 (.mv (.t 3)),
          o1 20 (.faddr 1 (.t 1)),
          o1 21 (.load none (.t 20)),
          o1 22 (.lenL (.t 21)),
          o1 23 (.bin .lss (.t 19) (.t 22))])
         (.cond (.t 23) (.skip) (.exit 0)))
        (.seq (.block 1 (.seq (.reg [o1 26 (.faddr 1 (.t 1)),
            o1 27 (.load none (.t 26)),
            o1 28 (.mv (.t 3)),
            o1 29 (.iaddr 1 (.t 27) (.t 28)),
            o1 30 (.load none (.t 29)),
            o1 31 (.bin .lss (.t 30) (cI 0)),
            o1 32 (.mv (.t 31)),
            oF 33 (.faddr 1 (.t 1)) 32,
            oF 34 (.load none (.t 33)) 32,
            oF 35 (.mv (.t 3)) 32,
            oF 36 (.iaddr 1 (.t 34) (.t 35)) 32,
            oF 37 (.load none (.t 36)) 32,
            oF 38 (.bin .gtr (.t 37) (cI 9)) 32,
            o1 39 (.pick (.t 32) (cB true) (.t 38))])
           (.cond (.t 39) (.seq (.reg [o1 2 (.mv (cB false))])
             (.ret)) (.skip))))
         (.reg [o1 24 (.mv (.t 3)),
          o1 25 (.bin .add (.t 24) (cI 1)),
          o1 3 (.mv (.t 25))]))))))
    (.seq (.seq (.reg [o1 4 (.mv (cI 1))])
      (.block 2 (.loop (.seq (.seq (.reg [o1 40 (.mv (.t 4)),
           o1 41 (.bin .add (.t 40) (cI 1)),
           o1 42 (.faddr 0 (.t 1)),
           o1 43 (.load none (.t 42)),
           o1 44 (.lenL (.t 43)),
           o1 45 (.bin .lss (.t 41) (.t 44))])
          (.cond (.t 45) (.skip) (.exit 2)))
         (.seq (.block 3 (.seq (.reg [o1 48 (.faddr 0 (.t 1)),
             o1 49 (.load none (.t 48)),
             o1 50 (.mv (.t 4)),
             o1 51 (.iaddr 1 (.t 49) (.t 50)),
             o1 52 (.load none (.t 51)),
             o1 53 (.bin .eql (.t 52) (.c (.string ⟨#[46]⟩)))])
            (.cond (.t 53) (.seq (.reg [o1 2 (.mv (cB false))])
              (.ret)) (.skip))))
          (.reg [o1 46 (.mv (.t 4)),
           o1 47 (.bin .add (.t 46) (cI 1)),
           o1 4 (.mv (.t 47))]))))))
     (.seq (.reg [o1 2 (.mv (cB true))])
      (.ret)))))
theorem s87_ok : lookF Try.prog 87 = some (s87, 54, [.tmp 2]) := by kernel_rfl
theorem rIsPat_ok (p : Pat) (hs : p.1.length ≤ 1000) : Fn P 87 [valA p] (boolA (patB p)) := by
  obtain ⟨s, l⟩ := p
  unfold patB
  dsimp only at *
  by_cases h0 : s.length = 0
  · rw [show decide (s.length ≠ 0) = false by simp [h0]]
    (refine fn_look s87_ok (by simp) (by intro k; simp only [go_sem, Nat.reduceEqDiff, ↓reduceIte, reduceCtorEq, Nat.reduceAdd, Nat.reduceMul, Int.reduceToNat, List.reduceReplicate, Nat.reduceLeDiff, Nat.reduceLT, Int.reduceLT, Int.reduceLE, Int.reduceEq]) fun S hS => cwp_sound _ _ _ _ ?_; simp (maxSteps := 900000) (disch := omega) only [s87, go_sem, Nat.reduceEqDiff, ↓reduceIte, reduceCtorEq, Nat.reduceAdd, Nat.reduceMul, Int.reduceToNat, List.reduceReplicate, Nat.reduceLeDiff, Nat.reduceLT, Int.reduceLT, Int.reduceLE, Int.reduceEq])
    repeat' (first | with_reducible refine inw ?_ | simp (maxSteps := 900000) (disch := omega) only [go_sem, Nat.reduceEqDiff, ↓reduceIte, reduceCtorEq, Nat.reduceAdd, Nat.reduceMul, Int.reduceToNat, List.reduceReplicate, Nat.reduceLeDiff, Nat.reduceLT, Int.reduceLT, Int.reduceLE, Int.reduceEq] | with_reducible refine pickB_f ?_ | with_reducible refine giv_intro fun _h => ?_ | with_reducible refine alt_intro ?_ fun _h => ?_ | with_reducible refine pickD_nil ?_ | (with_reducible refine brc (fun _h => ?_) fun _h => ?_) <;> first | (exfalso; omega) | simp only [decide_eq_false _h] | simp only [(_h : (_ : Bool) = _)] | simp only [decide_eq_true _h] | skip)
    all_goals first | rfl | simp
  rw [show decide (s.length ≠ 0) = true by simp [h0]]
  by_cases h1 : l.length = s.length + 1
  case neg =>
    rw [decide_eq_false h1]
    (refine fn_look s87_ok (by simp) (by intro k; simp only [go_sem, Nat.reduceEqDiff, ↓reduceIte, reduceCtorEq, Nat.reduceAdd, Nat.reduceMul, Int.reduceToNat, List.reduceReplicate, Nat.reduceLeDiff, Nat.reduceLT, Int.reduceLT, Int.reduceLE, Int.reduceEq]) fun S hS => cwp_sound _ _ _ _ ?_; simp (maxSteps := 900000) (disch := omega) only [s87, go_sem, Nat.reduceEqDiff, ↓reduceIte, reduceCtorEq, Nat.reduceAdd, Nat.reduceMul, Int.reduceToNat, List.reduceReplicate, Nat.reduceLeDiff, Nat.reduceLT, Int.reduceLT, Int.reduceLE, Int.reduceEq])
    repeat' (first | with_reducible refine inw ?_ | simp (maxSteps := 900000) (disch := omega) only [go_sem, Nat.reduceEqDiff, ↓reduceIte, reduceCtorEq, Nat.reduceAdd, Nat.reduceMul, Int.reduceToNat, List.reduceReplicate, Nat.reduceLeDiff, Nat.reduceLT, Int.reduceLT, Int.reduceLE, Int.reduceEq] | with_reducible refine pickB_f ?_ | with_reducible refine giv_intro fun _h => ?_ | with_reducible refine alt_intro ?_ fun _h => ?_ | with_reducible refine pickD_nil ?_ | (with_reducible refine brc (fun _h => ?_) fun _h => ?_) <;> first | (exfalso; omega) | simp only [decide_eq_false _h] | simp only [(_h : (_ : Bool) = _)] | simp only [decide_eq_true _h] | skip)
    all_goals first | rfl | simp
  case pos =>
    rw [decide_eq_true h1]
    (refine fn_look s87_ok (by simp) (by intro k; simp only [go_sem, Nat.reduceEqDiff, ↓reduceIte, reduceCtorEq, Nat.reduceAdd, Nat.reduceMul, Int.reduceToNat, List.reduceReplicate, Nat.reduceLeDiff, Nat.reduceLT, Int.reduceLT, Int.reduceLE, Int.reduceEq]) fun S hS => cwp_sound _ _ _ _ ?_; simp (maxSteps := 900000) (disch := omega) only [s87, go_sem, Nat.reduceEqDiff, ↓reduceIte, reduceCtorEq, Nat.reduceAdd, Nat.reduceMul, Int.reduceToNat, List.reduceReplicate, Nat.reduceLeDiff, Nat.reduceLT, Int.reduceLT, Int.reduceLE, Int.reduceEq])
    repeat' (first | with_reducible refine inw ?_ | simp (maxSteps := 900000) (disch := omega) only [go_sem, Nat.reduceEqDiff, ↓reduceIte, reduceCtorEq, Nat.reduceAdd, Nat.reduceMul, Int.reduceToNat, List.reduceReplicate, Nat.reduceLeDiff, Nat.reduceLT, Int.reduceLT, Int.reduceLE, Int.reduceEq] | with_reducible refine pickB_f ?_ | with_reducible refine giv_intro fun _h => ?_ | with_reducible refine alt_intro ?_ fun _h => ?_ | with_reducible refine pickD_nil ?_ | (with_reducible refine brc (fun _h => ?_) fun _h => ?_) <;> first | (exfalso; omega) | simp only [decide_eq_false _h] | simp only [(_h : (_ : Bool) = _)] | simp only [decide_eq_true _h] | skip)
    (refine loopC hS [1] (by simp only [go_sem, Nat.reduceEqDiff, ↓reduceIte, reduceCtorEq, Nat.reduceAdd, Nat.reduceMul, Int.reduceToNat, List.reduceReplicate, Nat.reduceLeDiff, Nat.reduceLT, Int.reduceLT, Int.reduceLE, Int.reduceEq]; try rfl) (fun (i : Nat) => [(3, intA i)]) (fun (i : Nat) => [some (.row 33 2 [sl s, sl l])]) (fun (i : Nat) => i ≤ l.length ∧ ∀ j, j < i → decide (nth l j < 0 ∨ 9 < nth l j) = false) (fun (i : Nat) => l.length - i) (0) ?_ (by intro s; first | (simp only [List.length_cons, List.length_nil]; done) | rfl | (rcases s with ⟨_, _⟩; rfl) | (rcases s with ⟨_, _, _⟩; rfl) | (rcases s with ⟨_, _, _, _⟩; rfl) | (rcases s with ⟨_, _, _, _, _⟩; rfl)) ?_)
    · simp (maxSteps := 900000) (disch := omega) only [go_sem, Nat.reduceEqDiff, ↓reduceIte, reduceCtorEq, Nat.reduceAdd, Nat.reduceMul, Int.reduceToNat, List.reduceReplicate, Nat.reduceLeDiff, Nat.reduceLT, Int.reduceLT, Int.reduceLE, Int.reduceEq]
      exact ⟨Nat.zero_le _, fun j hj => absurd hj (Nat.not_lt_zero _)⟩
    rintro i ⟨hi, hI⟩
    replace hi : i ≤ l.length := hi
    replace hI : ∀ j, j < i → decide (nth l j < 0 ∨ 9 < nth l j) = false := hI
    by_cases hil : i < l.length
    · have no : decide (nth l i < 0 ∨ 9 < nth l i) = true → (l.any fun k => decide (k < 0 ∨ 9 < k)) = true := fun h => any_yes hil (by rw [nth_eq hil] at h; exact h)
      repeat' (first | with_reducible refine inw ?_ | simp (maxSteps := 900000) (disch := omega) only [go_sem, Nat.reduceEqDiff, ↓reduceIte, reduceCtorEq, Nat.reduceAdd, Nat.reduceMul, Int.reduceToNat, List.reduceReplicate, Nat.reduceLeDiff, Nat.reduceLT, Int.reduceLT, Int.reduceLE, Int.reduceEq] | with_reducible refine pickB_f ?_ | with_reducible refine giv_intro fun _h => ?_ | with_reducible refine alt_intro ?_ fun _h => ?_ | with_reducible refine pickD_nil ?_ | (with_reducible refine brc (fun _h => ?_) fun _h => ?_) <;> first | (exfalso; omega) | simp only [decide_eq_false _h] | simp only [(_h : (_ : Bool) = _)] | simp only [decide_eq_true _h] | skip)
      all_goals first
        | (rw [no (decide_eq_true (by omega))]; rfl)
        | (refine ⟨i + 1, ⟨by omega, by omega, fun j hj => ?_⟩, by omega⟩
           rcases Nat.lt_or_ge j i with h | h
           · exact hI j h
           · obtain rfl : j = i := by omega
             exact decide_eq_false (by omega))
    · have ha : (l.any fun k => decide (k < 0 ∨ 9 < k)) = false := any_no fun j hj => by rw [← nth_eq hj]; exact hI j (by omega)
      rw [ha]
      repeat' (first | with_reducible refine inw ?_ | simp (maxSteps := 900000) (disch := omega) only [go_sem, Nat.reduceEqDiff, ↓reduceIte, reduceCtorEq, Nat.reduceAdd, Nat.reduceMul, Int.reduceToNat, List.reduceReplicate, Nat.reduceLeDiff, Nat.reduceLT, Int.reduceLT, Int.reduceLE, Int.reduceEq] | with_reducible refine pickB_f ?_ | with_reducible refine giv_intro fun _h => ?_ | with_reducible refine alt_intro ?_ fun _h => ?_ | with_reducible refine pickD_nil ?_ | (with_reducible refine brc (fun _h => ?_) fun _h => ?_) <;> first | (exfalso; omega) | simp only [decide_eq_false _h] | simp only [(_h : (_ : Bool) = _)] | simp only [decide_eq_true _h] | skip)
      (refine loopC hS [1] (by simp only [go_sem, Nat.reduceEqDiff, ↓reduceIte, reduceCtorEq, Nat.reduceAdd, Nat.reduceMul, Int.reduceToNat, List.reduceReplicate, Nat.reduceLeDiff, Nat.reduceLT, Int.reduceLT, Int.reduceLE, Int.reduceEq]; try rfl) (fun (i : Nat) => [(4, intA i)]) (fun (i : Nat) => [some (.row 33 2 [sl s, sl l])]) (fun (i : Nat) => 1 ≤ i ∧ i ≤ s.length ∧ ∀ j, 1 ≤ j → j < i → nth s j ≠ edgeS) (fun (i : Nat) => s.length - i) (1) ?_ (by intro s; first | (simp only [List.length_cons, List.length_nil]; done) | rfl | (rcases s with ⟨_, _⟩; rfl) | (rcases s with ⟨_, _, _⟩; rfl) | (rcases s with ⟨_, _, _, _⟩; rfl) | (rcases s with ⟨_, _, _, _, _⟩; rfl)) ?_)
      · simp (maxSteps := 900000) (disch := omega) only [go_sem, Nat.reduceEqDiff, ↓reduceIte, reduceCtorEq, Nat.reduceAdd, Nat.reduceMul, Int.reduceToNat, List.reduceReplicate, Nat.reduceLeDiff, Nat.reduceLT, Int.reduceLT, Int.reduceLE, Int.reduceEq]
        exact ⟨by omega, fun j h1 h2 => by omega⟩
      rintro i ⟨hi1, hi2, hJ⟩
      replace hi1 : 1 ≤ i := hi1
      replace hi2 : i ≤ s.length := hi2
      replace hJ : ∀ j, 1 ≤ j → j < i → nth s j ≠ edgeS := hJ
      by_cases hil2 : i + 1 < s.length
      · have no : nth s i = edgeS → ((midL s).any fun x => decide (edgeS = x)) = true := fun h => any_yes (j := i - 1) (by rw [midL_len]; omega) (by rw [midL_at, show i - 1 + 1 = i by omega, h]; simp)
        repeat' (first | with_reducible refine inw ?_ | simp (maxSteps := 900000) (disch := omega) only [go_sem, Nat.reduceEqDiff, ↓reduceIte, reduceCtorEq, Nat.reduceAdd, Nat.reduceMul, Int.reduceToNat, List.reduceReplicate, Nat.reduceLeDiff, Nat.reduceLT, Int.reduceLT, Int.reduceLE, Int.reduceEq] | with_reducible refine pickB_f ?_ | with_reducible refine giv_intro fun _h => ?_ | with_reducible refine alt_intro ?_ fun _h => ?_ | with_reducible refine pickD_nil ?_ | (with_reducible refine brc (fun _h => ?_) fun _h => ?_) <;> first | (exfalso; omega) | simp only [decide_eq_false _h] | simp only [(_h : (_ : Bool) = _)] | simp only [decide_eq_true _h] | skip)
        all_goals first
          | (rw [no (by assumption)]; rfl)
          | (refine ⟨i + 1, ⟨by omega, by omega, by omega, fun j h1 h2 => ?_⟩, by omega⟩
             rcases Nat.lt_or_ge j i with h | h
             · exact hJ j h1 h
             · obtain rfl : j = i := by omega
               assumption)
      · have hm : ((midL s).any fun x => decide (edgeS = x)) = false := any_no fun j hj => by
          rw [midL_at]
          rw [midL_len] at hj
          exact decide_eq_false fun e => hJ (j + 1) (by omega) (by omega) e.symm
        rw [hm]
        repeat' (first | with_reducible refine inw ?_ | simp (maxSteps := 900000) (disch := omega) only [go_sem, Nat.reduceEqDiff, ↓reduceIte, reduceCtorEq, Nat.reduceAdd, Nat.reduceMul, Int.reduceToNat, List.reduceReplicate, Nat.reduceLeDiff, Nat.reduceLT, Int.reduceLT, Int.reduceLE, Int.reduceEq] | with_reducible refine pickB_f ?_ | with_reducible refine giv_intro fun _h => ?_ | with_reducible refine alt_intro ?_ fun _h => ?_ | with_reducible refine pickD_nil ?_ | (with_reducible refine brc (fun _h => ?_) fun _h => ?_) <;> first | (exfalso; omega) | simp only [decide_eq_false _h] | simp only [(_h : (_ : Bool) = _)] | simp only [decide_eq_true _h] | skip)
        all_goals rfl
/-- ablaut/ablautref24.isPlaces: 1 parameters, 0 captured -/
def s88 : SC := .seq (.reg [o1 1 (.box 25 2 (.t 0)),
   o1 2 (.mv (cB false))])
  (.seq (.seq (.reg [o1 3 (.mv (cI 0))])
    (.block 0 (.loop (.seq (.seq (.reg [o1 4 (.mv (.t 3)),
         o1 5 (.faddr 1 (.t 1)),
         o1 6 (.load none (.t 5)),
         o1 7 (.lenL (.t 6)),
         o1 8 (.bin .lss (.t 4) (.t 7))])
        (.cond (.t 8) (.skip) (.exit 0)))
       (.seq (.block 1 (.seq (.regD [o1 11 (.faddr 1 (.t 1)),
           o1 12 (.load none (.t 11)),
           o1 13 (.mv (.t 3)),
           o1 14 (.iaddr 1 (.t 12) (.t 13)),
           o1 15 (.load none (.t 14)),
           o1 16 (.bin .lss (.t 15) (cI 1)),
           o1 17 (.mv (.t 16)),
           oF 18 (.faddr 1 (.t 1)) 17,
           oF 19 (.load none (.t 18)) 17,
           oF 20 (.mv (.t 3)) 17,
           oF 21 (.iaddr 1 (.t 19) (.t 20)) 17,
           oF 22 (.load none (.t 21)) 17,
           oF 23 (.faddr 0 (.t 1)) 17,
           oF 24 (.load none (.t 23)) 17,
           oF 25 (.lenL (.t 24)) 17,
           oF 26 (.bin .geq (.t 22) (.t 25)) 17,
           o1 27 (.pick (.t 17) (cB true) (.t 26)),
           o1 28 (.mv (.t 27)),
           oF 29 (.mv (.t 3)) 28,
           oF 30 (.bin .gtr (.t 29) (cI 0)) 28,
           oF 31 (.mv (.t 30)) 28,
           oT 32 (.faddr 1 (.t 1)) 31,
           oT 33 (.load none (.t 32)) 31,
           oT 34 (.mv (.t 3)) 31,
           oT 35 (.bin .sub (.t 34) (cI 1)) 31,
           oT 36 (.iaddr 1 (.t 33) (.t 35)) 31,
           oT 37 (.load none (.t 36)) 31,
           oT 38 (.faddr 1 (.t 1)) 31,
           oT 39 (.load none (.t 38)) 31,
           oT 40 (.mv (.t 3)) 31,
           oT 41 (.iaddr 1 (.t 39) (.t 40)) 31,
           oT 42 (.load none (.t 41)) 31,
           oT 43 (.bin .geq (.t 37) (.t 42)) 31,
           oF 44 (.pick (.t 31) (.t 43) (cB false)) 28,
           o1 45 (.pick (.t 28) (cB true) (.t 44))])
          (.cond (.t 45) (.seq (.reg [o1 2 (.mv (cB false))])
            (.ret)) (.skip))))
        (.reg [o1 9 (.mv (.t 3)),
         o1 10 (.bin .add (.t 9) (cI 1)),
         o1 3 (.mv (.t 10))]))))))
   (.seq (.reg [o1 2 (.mv (cB true))])
    (.ret)))
theorem s88_ok : lookF Try.prog 88 = some (s88, 46, [.tmp 2]) := by kernel_rfl
theorem rIsPl_ok (x : Brk) : Fn P 88 [valA x] (boolA (placesB x.2 x.1.length)) := by
  obtain ⟨w, l⟩ := x
  dsimp only at *
  (refine fn_look s88_ok (by simp) (by intro k; simp only [go_sem, Nat.reduceEqDiff, ↓reduceIte, reduceCtorEq, Nat.reduceAdd, Nat.reduceMul, Int.reduceToNat, List.reduceReplicate, Nat.reduceLeDiff, Nat.reduceLT, Int.reduceLT, Int.reduceLE, Int.reduceEq]) fun S hS => cwp_sound _ _ _ _ ?_; simp (maxSteps := 900000) (disch := omega) only [s88, go_sem, Nat.reduceEqDiff, ↓reduceIte, reduceCtorEq, Nat.reduceAdd, Nat.reduceMul, Int.reduceToNat, List.reduceReplicate, Nat.reduceLeDiff, Nat.reduceLT, Int.reduceLT, Int.reduceLE, Int.reduceEq])
  repeat' (first | with_reducible refine inw ?_ | simp (maxSteps := 900000) (disch := omega) only [go_sem, Nat.reduceEqDiff, ↓reduceIte, reduceCtorEq, Nat.reduceAdd, Nat.reduceMul, Int.reduceToNat, List.reduceReplicate, Nat.reduceLeDiff, Nat.reduceLT, Int.reduceLT, Int.reduceLE, Int.reduceEq] | with_reducible refine pickB_f ?_ | with_reducible refine giv_intro fun _h => ?_ | with_reducible refine alt_intro ?_ fun _h => ?_ | with_reducible refine pickD_nil ?_ | (with_reducible refine brc (fun _h => ?_) fun _h => ?_) <;> first | (exfalso; omega) | simp only [decide_eq_false _h] | simp only [(_h : (_ : Bool) = _)] | simp only [decide_eq_true _h] | skip)
  (refine loopC hS [1] (by simp only [go_sem, Nat.reduceEqDiff, ↓reduceIte, reduceCtorEq, Nat.reduceAdd, Nat.reduceMul, Int.reduceToNat, List.reduceReplicate, Nat.reduceLeDiff, Nat.reduceLT, Int.reduceLT, Int.reduceLE, Int.reduceEq]; try rfl) (fun (i : Nat) => [(3, intA i)]) (fun (i : Nat) => [some (.row 25 2 [sl w, sl l])]) (fun (i : Nat) => i ≤ l.length ∧ ∀ j, j < i → okAt l w.length j = true) (fun (i : Nat) => l.length - i) (0) ?_ (by intro s; first | (simp only [List.length_cons, List.length_nil]; done) | rfl | (rcases s with ⟨_, _⟩; rfl) | (rcases s with ⟨_, _, _⟩; rfl) | (rcases s with ⟨_, _, _, _⟩; rfl) | (rcases s with ⟨_, _, _, _, _⟩; rfl)) ?_)
  · simp (maxSteps := 900000) (disch := omega) only [go_sem, Nat.reduceEqDiff, ↓reduceIte, reduceCtorEq, Nat.reduceAdd, Nat.reduceMul, Int.reduceToNat, List.reduceReplicate, Nat.reduceLeDiff, Nat.reduceLT, Int.reduceLT, Int.reduceLE, Int.reduceEq]
    exact ⟨Nat.zero_le _, fun j hj => absurd hj (Nat.not_lt_zero _)⟩
  rintro i ⟨hi, hI⟩
  replace hi : i ≤ l.length := hi
  replace hI : ∀ j, j < i → okAt l w.length j = true := hI
  by_cases hil : i < l.length
  · have e1 : ((i : Int) - 1).toNat = i - 1 := by omega
    have no : okAt l w.length i = false → placesB l w.length = false := range_no hil
    repeat' (first | with_reducible refine inw ?_ | simp (maxSteps := 900000) (disch := omega) only [go_sem, Nat.reduceEqDiff, ↓reduceIte, reduceCtorEq, Nat.reduceAdd, Nat.reduceMul, Int.reduceToNat, List.reduceReplicate, Nat.reduceLeDiff, Nat.reduceLT, Int.reduceLT, Int.reduceLE, Int.reduceEq, e1] | with_reducible refine pickB_f ?_ | with_reducible refine giv_intro fun _h => ?_ | with_reducible refine alt_intro ?_ fun _h => ?_ | with_reducible refine pickD_nil ?_ | (with_reducible refine brc (fun _h => ?_) fun _h => ?_) <;> first | (exfalso; omega) | simp only [decide_eq_false _h] | simp only [(_h : (_ : Bool) = _)] | simp only [decide_eq_true _h] | skip)
    all_goals first
      | exact (no (by simp [okAt]; omega)).symm
      | exact ⟨i + 1, ⟨by omega, by omega, step_all hI (by simp [okAt]; omega)⟩, by omega⟩
  · have yes : placesB l w.length = true := range_yes fun j hj => hI j (by omega)
    repeat' (first | with_reducible refine inw ?_ | simp (maxSteps := 900000) (disch := omega) only [go_sem, Nat.reduceEqDiff, ↓reduceIte, reduceCtorEq, Nat.reduceAdd, Nat.reduceMul, Int.reduceToNat, List.reduceReplicate, Nat.reduceLeDiff, Nat.reduceLT, Int.reduceLT, Int.reduceLE, Int.reduceEq] | with_reducible refine pickB_f ?_ | with_reducible refine giv_intro fun _h => ?_ | with_reducible refine alt_intro ?_ fun _h => ?_ | with_reducible refine pickD_nil ?_ | (with_reducible refine brc (fun _h => ?_) fun _h => ?_) <;> first | (exfalso; omega) | simp only [decide_eq_false _h] | simp only [(_h : (_ : Bool) = _)] | simp only [decide_eq_true _h] | skip)
    exact yes.symm
/-- ablaut/ablautref24.bookWords: 1 parameters, 0 captured -/
def s51 : SC := .seq (.reg [o1 1 (.box 37 5 (.t 0)),
   o1 2 (.mv (.c (.slice none 0 0)))])
  (.seq (.reg [o1 3 (.mv (.c (.slice none 0 0)))])
   (.seq (.seq (.reg [o1 4 (.mv (cI 0))])
     (.block 0 (.loop (.seq (.seq (.reg [o1 7 (.mv (.t 4)),
          o1 8 (.faddr 2 (.t 1)),
          o1 9 (.load none (.t 8)),
          o1 10 (.lenL (.t 9)),
          o1 11 (.bin .lss (.t 7) (.t 10))])
         (.cond (.t 11) (.skip) (.exit 0)))
        (.seq (.block 1 (.reg [o1 14 (.mv (.t 3)),
           o1 15 (.faddr 2 (.t 1)),
           o1 16 (.load none (.t 15)),
           o1 17 (.mv (.t 4)),
           o1 18 (.iaddr 2 (.t 16) (.t 17)),
           o1 19 (.faddr 0 (.t 18)),
           o1 20 (.load none (.t 19)),
           o1 21 (.buildSl 22 1 1 [(.slice none 0 0)] [(0, 1, (.t 20))]),
           o1 22 (.app 22 1 24 (.t 14) (.t 21)),
           o1 3 (.mv (.t 22))]))
         (.reg [o1 12 (.mv (.t 4)),
          o1 13 (.bin .add (.t 12) (cI 1)),
          o1 4 (.mv (.t 13))]))))))
    (.seq (.seq (.reg [o1 5 (.mv (cI 0))])
      (.block 2 (.loop (.seq (.seq (.reg [o1 23 (.mv (.t 5)),
           o1 24 (.faddr 3 (.t 1)),
           o1 25 (.load none (.t 24)),
           o1 26 (.lenL (.t 25)),
           o1 27 (.bin .lss (.t 23) (.t 26))])
          (.cond (.t 27) (.skip) (.exit 2)))
         (.seq (.block 3 (.reg [o1 30 (.mv (.t 3)),
            o1 31 (.faddr 3 (.t 1)),
            o1 32 (.load none (.t 31)),
            o1 33 (.mv (.t 5)),
            o1 34 (.iaddr 2 (.t 32) (.t 33)),
            o1 35 (.faddr 0 (.t 34)),
            o1 36 (.load none (.t 35)),
            o1 37 (.buildSl 22 1 1 [(.slice none 0 0)] [(0, 1, (.t 36))]),
            o1 38 (.app 22 1 24 (.t 30) (.t 37)),
            o1 3 (.mv (.t 38))]))
          (.reg [o1 28 (.mv (.t 5)),
           o1 29 (.bin .add (.t 28) (cI 1)),
           o1 5 (.mv (.t 29))]))))))
     (.seq (.seq (.reg [o1 6 (.mv (cI 0))])
       (.block 4 (.loop (.seq (.seq (.reg [o1 39 (.mv (.t 6)),
            o1 40 (.faddr 4 (.t 1)),
            o1 41 (.load none (.t 40)),
            o1 42 (.lenL (.t 41)),
            o1 43 (.bin .lss (.t 39) (.t 42))])
           (.cond (.t 43) (.skip) (.exit 4)))
          (.seq (.block 5 (.regE [o1 46 (.mv (.t 3)),
             o1 47 (.faddr 4 (.t 1)),
             o1 48 (.load none (.t 47)),
             o1 49 (.mv (.t 6)),
             o1 50 (.iaddr 4 (.t 48) (.t 49)),
             o1 51 (.faddr 0 (.t 50)),
             o1 52 (.load none (.t 51)),
             o1 53 (.faddr 4 (.t 1)),
             o1 54 (.load none (.t 53)),
             o1 55 (.mv (.t 6)),
             o1 56 (.iaddr 4 (.t 54) (.t 55)),
             o1 57 (.faddr 1 (.t 56)),
             o1 58 (.load none (.t 57)),
             o1 59 (.faddr 4 (.t 1)),
             o1 60 (.load none (.t 59)),
             o1 61 (.mv (.t 6)),
             o1 62 (.iaddr 4 (.t 60) (.t 61)),
             o1 63 (.faddr 2 (.t 62)),
             o1 64 (.load none (.t 63)),
             o1 65 (.buildSl 22 1 3 [(.slice none 0 0)] [(0, 1, (.t 52)), (1, 1, (.t 58)), (2, 1, (.t 64))]),
             o1 66 (.app 22 1 24 (.t 46) (.t 65)),
             o1 3 (.mv (.t 66))]))
           (.reg [o1 44 (.mv (.t 6)),
            o1 45 (.bin .add (.t 44) (cI 1)),
            o1 6 (.mv (.t 45))]))))))
      (.seq (.reg [o1 67 (.mv (.t 3)),
        o1 2 (.mv (.t 67))])
       (.ret))))))
theorem s51_ok : lookF Try.prog 51 = some (s51, 68, [.tmp 2]) := by kernel_rfl
theorem rWords_ok (h : Book) (b1 : h.2.2.1.length ≤ 1000) (b2 : h.2.2.2.1.length ≤ 1000) (b3 : h.2.2.2.2.length ≤ 1000) : Fn P 51 [bkA h] (sl (bookW h)) := by
  obtain ⟨lf, rt, ps, xs, ts⟩ := h
  unfold bookW
  dsimp only at *
  (refine fn_look s51_ok (by simp) (by intro k; simp only [go_sem, Nat.reduceEqDiff, ↓reduceIte, reduceCtorEq, Nat.reduceAdd, Nat.reduceMul, Int.reduceToNat, List.reduceReplicate, Nat.reduceLeDiff, Nat.reduceLT, Int.reduceLT, Int.reduceLE, Int.reduceEq]) fun S hS => cwp_sound _ _ _ _ ?_; simp (maxSteps := 900000) (disch := omega) only [s51, go_sem, Nat.reduceEqDiff, ↓reduceIte, reduceCtorEq, Nat.reduceAdd, Nat.reduceMul, Int.reduceToNat, List.reduceReplicate, Nat.reduceLeDiff, Nat.reduceLT, Int.reduceLT, Int.reduceLE, Int.reduceEq])
  repeat' (first | with_reducible refine inw ?_ | simp (maxSteps := 900000) (disch := omega) only [go_sem, Nat.reduceEqDiff, ↓reduceIte, reduceCtorEq, Nat.reduceAdd, Nat.reduceMul, Int.reduceToNat, List.reduceReplicate, Nat.reduceLeDiff, Nat.reduceLT, Int.reduceLT, Int.reduceLE, Int.reduceEq] | with_reducible refine pickB_f ?_ | with_reducible refine giv_intro fun _h => ?_ | with_reducible refine alt_intro ?_ fun _h => ?_ | with_reducible refine pickD_nil ?_ | (with_reducible refine brc (fun _h => ?_) fun _h => ?_) <;> first | (exfalso; omega) | simp only [decide_eq_false _h] | simp only [(_h : (_ : Bool) = _)] | simp only [decide_eq_true _h] | skip)
  refine nil_row 3 22 1 (by simp (maxSteps := 900000) (disch := omega) only [go_sem, Nat.reduceEqDiff, ↓reduceIte, reduceCtorEq, Nat.reduceAdd, Nat.reduceMul, Int.reduceToNat, List.reduceReplicate, Nat.reduceLeDiff, Nat.reduceLT, Int.reduceLT, Int.reduceLE, Int.reduceEq]) ?_
  simp only [List.cons_append, List.nil_append, List.length_cons, List.length_nil, Nat.zero_add, Nat.reduceAdd]
  (refine loopC hS [1] (by simp only [go_sem, Nat.reduceEqDiff, ↓reduceIte, reduceCtorEq, Nat.reduceAdd, Nat.reduceMul, Int.reduceToNat, List.reduceReplicate, Nat.reduceLeDiff, Nat.reduceLT, Int.reduceLT, Int.reduceLE, Int.reduceEq]; try rfl) (fun (i : Nat) => [(3, own S 1 ((ps.take i).map (·.1))), (4, intA i)]) (fun (i : Nat) => [some (.row 37 5 [intA lf, intA rt, sl ps, sl xs, sl ts]), rowO 22 ((ps.take i).map (·.1))]) (fun (i : Nat) => i ≤ ps.length) (fun (i : Nat) => ps.length - i) (0) ?_ (by intro s; first | (simp only [List.length_cons, List.length_nil]; done) | rfl | (rcases s with ⟨_, _⟩; rfl) | (rcases s with ⟨_, _, _⟩; rfl) | (rcases s with ⟨_, _, _, _⟩; rfl) | (rcases s with ⟨_, _, _, _, _⟩; rfl)) ?_)
  · simp (maxSteps := 900000) (disch := omega) only [go_sem, Nat.reduceEqDiff, ↓reduceIte, reduceCtorEq, Nat.reduceAdd, Nat.reduceMul, Int.reduceToNat, List.reduceReplicate, Nat.reduceLeDiff, Nat.reduceLT, Int.reduceLT, Int.reduceLE, Int.reduceEq]
    exact Nat.zero_le _
  rintro i hi
  replace hi : i ≤ ps.length := hi
  by_cases hil : i < ps.length
  · have hst : (ps.take (i + 1)).map (·.1) = (ps.take i).map (·.1) ++ [(nth ps i).1] := by rw [List.take_add_one, nth_get? hil]; simp
    have hln : ((ps.take i).map (·.1)).length = i := by rw [List.length_map, List.length_take]; omega
    have eD : (cellsL ps)[i * 2]? = some (sl (nth ps i).1) := cells2_0 hil
    have z1 : zcells [Value.slice none 0 0] 1 = [.sc (.slice none 0 0)] := rfl
    generalize hA : (ps.take i).map (·.1) = A at *
    repeat' (first | with_reducible refine inw ?_ | simp (maxSteps := 900000) (disch := omega) only [go_sem, Nat.reduceEqDiff, ↓reduceIte, reduceCtorEq, Nat.reduceAdd, Nat.reduceMul, Int.reduceToNat, List.reduceReplicate, Nat.reduceLeDiff, Nat.reduceLT, Int.reduceLT, Int.reduceLE, Int.reduceEq, eD, z1] | with_reducible refine pickB_f ?_ | with_reducible refine giv_intro fun _h => ?_ | with_reducible refine alt_intro ?_ fun _h => ?_ | with_reducible refine pickD_nil ?_ | (with_reducible refine brc (fun _h => ?_) fun _h => ?_) <;> first | (exfalso; omega) | simp only [decide_eq_false _h] | simp only [(_h : (_ : Bool) = _)] | simp only [decide_eq_true _h] | skip)
    refine ⟨i + 1, ⟨by omega, by omega⟩, ⟨⟨by rw [List.length_take]; omega, by rw [List.length_take]; omega⟩, by omega⟩, by rw [hst]⟩
  obtain rfl : i = ps.length := by omega
  rw [List.take_length]
  have hPl : (ps.map (·.1)).length = ps.length := List.length_map ..
  generalize ps.map (·.1) = A at *
  repeat' (first | with_reducible refine inw ?_ | simp (maxSteps := 900000) (disch := omega) only [go_sem, Nat.reduceEqDiff, ↓reduceIte, reduceCtorEq, Nat.reduceAdd, Nat.reduceMul, Int.reduceToNat, List.reduceReplicate, Nat.reduceLeDiff, Nat.reduceLT, Int.reduceLT, Int.reduceLE, Int.reduceEq] | with_reducible refine pickB_f ?_ | with_reducible refine giv_intro fun _h => ?_ | with_reducible refine alt_intro ?_ fun _h => ?_ | with_reducible refine pickD_nil ?_ | (with_reducible refine brc (fun _h => ?_) fun _h => ?_) <;> first | (exfalso; omega) | simp only [decide_eq_false _h] | simp only [(_h : (_ : Bool) = _)] | simp only [decide_eq_true _h] | skip)
  (refine loopC hS [1] (by simp only [go_sem, Nat.reduceEqDiff, ↓reduceIte, reduceCtorEq, Nat.reduceAdd, Nat.reduceMul, Int.reduceToNat, List.reduceReplicate, Nat.reduceLeDiff, Nat.reduceLT, Int.reduceLT, Int.reduceLE, Int.reduceEq]; try rfl) (fun (i : Nat) => [(3, own S 1 (A ++ (xs.take i).map (·.1))), (5, intA i)]) (fun (i : Nat) => [some (.row 37 5 [intA lf, intA rt, sl ps, sl xs, sl ts]), rowO 22 (A ++ (xs.take i).map (·.1))]) (fun (i : Nat) => i ≤ xs.length) (fun (i : Nat) => xs.length - i) (0) ?_ (by intro s; first | (simp only [List.length_cons, List.length_nil]; done) | rfl | (rcases s with ⟨_, _⟩; rfl) | (rcases s with ⟨_, _, _⟩; rfl) | (rcases s with ⟨_, _, _, _⟩; rfl) | (rcases s with ⟨_, _, _, _, _⟩; rfl)) ?_)
  · simp (maxSteps := 900000) (disch := omega) only [go_sem, Nat.reduceEqDiff, ↓reduceIte, reduceCtorEq, Nat.reduceAdd, Nat.reduceMul, Int.reduceToNat, List.reduceReplicate, Nat.reduceLeDiff, Nat.reduceLT, Int.reduceLT, Int.reduceLE, Int.reduceEq]
    exact Nat.zero_le _
  rintro i hi
  replace hi : i ≤ xs.length := hi
  by_cases hil : i < xs.length
  · have hst : A ++ (xs.take (i + 1)).map (·.1) = A ++ (xs.take i).map (·.1) ++ [(nth xs i).1] := by rw [List.take_add_one, nth_get? hil]; simp
    have hln : (A ++ (xs.take i).map (·.1)).length = ps.length + i := by rw [List.length_append, List.length_map, List.length_take]; omega
    have eD : (cellsL xs)[i * 2]? = some (sl (nth xs i).1) := cells2_0 hil
    have z1 : zcells [Value.slice none 0 0] 1 = [.sc (.slice none 0 0)] := rfl
    generalize hB : A ++ (xs.take i).map (·.1) = B at *
    repeat' (first | with_reducible refine inw ?_ | simp (maxSteps := 900000) (disch := omega) only [go_sem, Nat.reduceEqDiff, ↓reduceIte, reduceCtorEq, Nat.reduceAdd, Nat.reduceMul, Int.reduceToNat, List.reduceReplicate, Nat.reduceLeDiff, Nat.reduceLT, Int.reduceLT, Int.reduceLE, Int.reduceEq, eD, z1] | with_reducible refine pickB_f ?_ | with_reducible refine giv_intro fun _h => ?_ | with_reducible refine alt_intro ?_ fun _h => ?_ | with_reducible refine pickD_nil ?_ | (with_reducible refine brc (fun _h => ?_) fun _h => ?_) <;> first | (exfalso; omega) | simp only [decide_eq_false _h] | simp only [(_h : (_ : Bool) = _)] | simp only [decide_eq_true _h] | skip)
    have hl2 : (A ++ (xs.take (i + 1)).map (·.1)).length = B.length + 1 := by rw [hst, List.length_append, List.length_singleton]
    refine ⟨i + 1, ⟨by omega, by omega⟩, ⟨⟨hl2.symm, hl2.symm⟩, by omega⟩, by rw [hst]⟩
  obtain rfl : i = xs.length := by omega
  rw [List.take_length]
  have hXl : (A ++ xs.map (·.1)).length = ps.length + xs.length := by rw [List.length_append, List.length_map]; omega
  rw [← List.append_assoc]
  generalize A ++ xs.map (·.1) = A at *
  repeat' (first | with_reducible refine inw ?_ | simp (maxSteps := 900000) (disch := omega) only [go_sem, Nat.reduceEqDiff, ↓reduceIte, reduceCtorEq, Nat.reduceAdd, Nat.reduceMul, Int.reduceToNat, List.reduceReplicate, Nat.reduceLeDiff, Nat.reduceLT, Int.reduceLT, Int.reduceLE, Int.reduceEq] | with_reducible refine pickB_f ?_ | with_reducible refine giv_intro fun _h => ?_ | with_reducible refine alt_intro ?_ fun _h => ?_ | with_reducible refine pickD_nil ?_ | (with_reducible refine brc (fun _h => ?_) fun _h => ?_) <;> first | (exfalso; omega) | simp only [decide_eq_false _h] | simp only [(_h : (_ : Bool) = _)] | simp only [decide_eq_true _h] | skip)
  (refine loopC hS [1] (by simp only [go_sem, Nat.reduceEqDiff, ↓reduceIte, reduceCtorEq, Nat.reduceAdd, Nat.reduceMul, Int.reduceToNat, List.reduceReplicate, Nat.reduceLeDiff, Nat.reduceLT, Int.reduceLT, Int.reduceLE, Int.reduceEq]; try rfl) (fun (i : Nat) => [(3, own S 1 (A ++ (ts.take i).flatMap fun t => [t.1, t.2.1, t.2.2.1])), (6, intA i)]) (fun (i : Nat) => [some (.row 37 5 [intA lf, intA rt, sl ps, sl xs, sl ts]), rowO 22 (A ++ (ts.take i).flatMap fun t => [t.1, t.2.1, t.2.2.1])]) (fun (i : Nat) => i ≤ ts.length) (fun (i : Nat) => ts.length - i) (0) ?_ (by intro s; first | (simp only [List.length_cons, List.length_nil]; done) | rfl | (rcases s with ⟨_, _⟩; rfl) | (rcases s with ⟨_, _, _⟩; rfl) | (rcases s with ⟨_, _, _, _⟩; rfl) | (rcases s with ⟨_, _, _, _, _⟩; rfl)) ?_)
  · simp (maxSteps := 900000) (disch := omega) only [go_sem, Nat.reduceEqDiff, ↓reduceIte, reduceCtorEq, Nat.reduceAdd, Nat.reduceMul, Int.reduceToNat, List.reduceReplicate, Nat.reduceLeDiff, Nat.reduceLT, Int.reduceLT, Int.reduceLE, Int.reduceEq]
    rw [List.flatMap_nil, List.append_nil]
    exact ⟨Nat.zero_le _, ⟨rfl, rfl⟩, rfl⟩
  rintro i hi
  replace hi : i ≤ ts.length := hi
  have hfl : ((ts.take i).flatMap fun t => [t.1, t.2.1, t.2.2.1]).length = i * 3 := by
    rw [flatMap_len3, List.length_take]; omega
  by_cases hil : i < ts.length
  · have hst : A ++ ((ts.take (i + 1)).flatMap fun t => [t.1, t.2.1, t.2.2.1]) = A ++ ((ts.take i).flatMap fun t => [t.1, t.2.1, t.2.2.1]) ++ [(nth ts i).1, (nth ts i).2.1, (nth ts i).2.2.1] := by rw [List.take_add_one, nth_get? hil]; simp
    have hln : (A ++ ((ts.take i).flatMap fun t => [t.1, t.2.1, t.2.2.1])).length = ps.length + xs.length + i * 3 := by rw [List.length_append, hfl]; omega
    have hdr := cellsL_drop ts i
    rw [nth_drop hil] at hdr
    have eA : (cellsL ts)[i * 4]? = some (sl (nth ts i).1) := by have := congrArg (fun x : List AV => x[0]?) hdr; simp only [List.getElem?_drop, Nat.add_zero] at this; rw [this]; rfl
    have eB : (cellsL ts)[i * 4 + 1]? = some (sl (nth ts i).2.1) := by have := congrArg (fun x : List AV => x[1]?) hdr; simp only [List.getElem?_drop] at this; rw [this]; rfl
    have eC : (cellsL ts)[i * 4 + 2]? = some (sl (nth ts i).2.2.1) := by have := congrArg (fun x : List AV => x[2]?) hdr; simp only [List.getElem?_drop] at this; rw [this]; rfl
    have z3 : zcells [Value.slice none 0 0] 3 = [.sc (.slice none 0 0), .sc (.slice none 0 0), .sc (.slice none 0 0)] := rfl
    generalize hB : (A ++ (ts.take i).flatMap fun t => [t.1, t.2.1, t.2.2.1]) = B at *
    have s3 : ∀ (S : St) (a b c : AV), srcOf S 1 (.ro 3 [a, b, c]) = some (3, [a, b, c]) := fun _ _ _ _ => rfl
    have o3 : ∀ (a b c : List Str), [sl a, sl b, sl c].all AV.one = true := fun _ _ _ => rfl
    repeat' (first | with_reducible refine inw ?_ | simp (maxSteps := 900000) (disch := omega) only [go_sem, Nat.reduceEqDiff, ↓reduceIte, reduceCtorEq, Nat.reduceAdd, Nat.reduceMul, Int.reduceToNat, List.reduceReplicate, Nat.reduceLeDiff, Nat.reduceLT, Int.reduceLT, Int.reduceLE, Int.reduceEq, eA, eB, eC, z3, s3, o3] | with_reducible refine pickB_f ?_ | with_reducible refine giv_intro fun _h => ?_ | with_reducible refine alt_intro ?_ fun _h => ?_ | with_reducible refine pickD_nil ?_ | (with_reducible refine brc (fun _h => ?_) fun _h => ?_) <;> first | (exfalso; omega) | simp only [decide_eq_false _h] | simp only [(_h : (_ : Bool) = _)] | simp only [decide_eq_true _h] | skip)
    have hl2 : (A ++ (ts.take (i + 1)).flatMap fun t => [t.1, t.2.1, t.2.2.1]).length = B.length + 3 := by rw [hst, List.length_append]; rfl
    refine ⟨i + 1, ⟨by omega, by omega⟩, ⟨⟨hl2.symm, hl2.symm⟩, by omega⟩, ?_⟩
    rw [hst, ← cellsL_app]; rfl
  obtain rfl : i = ts.length := by omega
  rw [List.take_length]
  repeat' (first | with_reducible refine inw ?_ | simp (maxSteps := 900000) (disch := omega) only [go_sem, Nat.reduceEqDiff, ↓reduceIte, reduceCtorEq, Nat.reduceAdd, Nat.reduceMul, Int.reduceToNat, List.reduceReplicate, Nat.reduceLeDiff, Nat.reduceLT, Int.reduceLT, Int.reduceLE, Int.reduceEq] | with_reducible refine pickB_f ?_ | with_reducible refine giv_intro fun _h => ?_ | with_reducible refine alt_intro ?_ fun _h => ?_ | with_reducible refine pickD_nil ?_ | (with_reducible refine brc (fun _h => ?_) fun _h => ?_) <;> first | (exfalso; omega) | simp only [decide_eq_false _h] | simp only [(_h : (_ : Bool) = _)] | simp only [decide_eq_true _h] | skip)
/-- ablaut/ablautref24.wordErrors: 1 parameters, 0 captured -/
def s50 : SC := .seq (.reg [o1 2 (.mv (cI 0))])
  (.seq (.seq (.reg [o1 3 (.mv (cI 0))])
    (.block 0 (.loop (.seq (.seq (.reg [o1 5 (.mv (.t 3)),
         o1 6 (.mv (.t 0)),
         o1 7 (.lenL (.t 6)),
         o1 8 (.bin .lss (.t 5) (.t 7))])
        (.cond (.t 8) (.skip) (.exit 0)))
       (.seq (.block 1 (.seq (.reg [o1 11 (.mv (.t 0)),
           o1 12 (.mv (.t 3)),
           o1 13 (.iaddr 1 (.t 11) (.t 12)),
           o1 14 (.load none (.t 13)),
           o1 15 (.call (.f 9) [(.t 14)]),
           o1 4 (.mv (.t 15))])
          (.seq (.reg [o1 16 (.mv (.t 4)),
            o1 17 (.bin .neq (.t 16) (cI 0))])
           (.cond (.t 17) (.seq (.reg [o1 18 (.mv (.t 4)),
              o1 2 (.mv (.t 18))])
             (.ret)) (.skip)))))
        (.reg [o1 9 (.mv (.t 3)),
         o1 10 (.bin .add (.t 9) (cI 1)),
         o1 3 (.mv (.t 10))]))))))
   (.seq (.reg [o1 2 (.mv (cI 0))])
    (.ret)))
theorem s50_ok : lookF Try.prog 50 = some (s50, 19, [.tmp 2]) := by kernel_rfl
theorem rWordE_ok (l : List (List Str)) : Fn P 50 [sl l] (intA (wordsErr l)) := by
  (refine fn_look s50_ok (by simp) (by intro k; simp only [go_sem, Nat.reduceEqDiff, ↓reduceIte, reduceCtorEq, Nat.reduceAdd, Nat.reduceMul, Int.reduceToNat, List.reduceReplicate, Nat.reduceLeDiff, Nat.reduceLT, Int.reduceLT, Int.reduceLE, Int.reduceEq]) fun S hS => cwp_sound _ _ _ _ ?_; simp (maxSteps := 900000) (disch := omega) only [s50, go_sem, Nat.reduceEqDiff, ↓reduceIte, reduceCtorEq, Nat.reduceAdd, Nat.reduceMul, Int.reduceToNat, List.reduceReplicate, Nat.reduceLeDiff, Nat.reduceLT, Int.reduceLT, Int.reduceLE, Int.reduceEq])
  (refine loopC hS [0] (by simp only [go_sem, Nat.reduceEqDiff, ↓reduceIte, reduceCtorEq, Nat.reduceAdd, Nat.reduceMul, Int.reduceToNat, List.reduceReplicate, Nat.reduceLeDiff, Nat.reduceLT, Int.reduceLT, Int.reduceLE, Int.reduceEq]; try rfl) (fun (i : Nat) => [(3, intA i)]) (fun (i : Nat) => []) (fun (i : Nat) => i ≤ l.length ∧ wordsErr l = wordsErr (l.drop i)) (fun (i : Nat) => l.length - i) (0) ?_ (by intro s; first | (simp only [List.length_cons, List.length_nil]; done) | rfl | (rcases s with ⟨_, _⟩; rfl) | (rcases s with ⟨_, _, _⟩; rfl) | (rcases s with ⟨_, _, _, _⟩; rfl) | (rcases s with ⟨_, _, _, _, _⟩; rfl)) ?_)
  · simp (maxSteps := 900000) (disch := omega) only [go_sem, Nat.reduceEqDiff, ↓reduceIte, reduceCtorEq, Nat.reduceAdd, Nat.reduceMul, Int.reduceToNat, List.reduceReplicate, Nat.reduceLeDiff, Nat.reduceLT, Int.reduceLT, Int.reduceLE, Int.reduceEq]; simp
  rintro i ⟨hi, hI⟩
  repeat' (first | with_reducible refine inw ?_ | simp (maxSteps := 900000) (disch := omega) only [go_sem, Nat.reduceEqDiff, ↓reduceIte, reduceCtorEq, Nat.reduceAdd, Nat.reduceMul, Int.reduceToNat, List.reduceReplicate, Nat.reduceLeDiff, Nat.reduceLT, Int.reduceLT, Int.reduceLE, Int.reduceEq] | (with_reducible apply call (refValidateWord_ok _)); (focus simp (maxSteps := 900000) (disch := omega) only [go_sem, Nat.reduceEqDiff, ↓reduceIte, reduceCtorEq, Nat.reduceAdd, Nat.reduceMul, Int.reduceToNat, List.reduceReplicate, Nat.reduceLeDiff, Nat.reduceLT, Int.reduceLT, Int.reduceLE, Int.reduceEq] <;> rfl) | with_reducible refine pickB_f ?_ | with_reducible refine giv_intro fun _h => ?_ | with_reducible refine alt_intro ?_ fun _h => ?_ | with_reducible refine pickD_nil ?_ | (with_reducible refine brc (fun _h => ?_) fun _h => ?_) <;> first | (exfalso; omega) | simp only [decide_eq_false _h] | simp only [(_h : (_ : Bool) = _)] | simp only [decide_eq_true _h] | skip)
  · rw [hI, nth_drop (by assumption), wordsErr, if_pos (by assumption)]
  · refine ⟨i + 1, ⟨by omega, by omega, ?_⟩, by omega⟩
    rw [hI, nth_drop (by assumption), wordsErr, if_neg (by omega)]
  · rw [hI, List.drop_eq_nil_of_le (by omega)]; rfl
end Go.Proofs.Ytfihpbeihlpfcaa.Ev

/- Best, both programs; what is known; how much comes in. -/
import Derived.Test.YtapgimibdamjoaaZFnNs
set_option linter.unusedVariables false
set_option linter.unusedSimpArgs false
namespace Go.Proofs.Ytapgimibdamjoaa.Ev
open Go Go.Proofs Go.RowKit

theorem smV_of {ls : List Lesson} (hs : SmLs ls) : SmV ls := hs
theorem smW_of {ls : List Lesson} (hs : SmLs ls) (h : valL ls = 0) : SmW ls := fun x hx => by
  obtain ⟨_, _, h3⟩ := (valL_ok h).2 x hx
  obtain ⟨a, b, c⟩ := hs x hx
  rw [nmL, Bool.and_eq_true] at h3
  exact ⟨a, fun s hs => ⟨b s hs, List.all_eq_true.1 h3.1 s hs⟩⟩
abbrev beA (t : (Change × Int) × Int) : AV := .tup [chA t.1.1, intA t.1.2, intA t.2]
noncomputable def bestT (ls : List Lesson) : (Change × Int) × Int := if valL ls ≠ 0 then ((dfC, 0), valL ls) else if (bestL ls).2 < 1 then ((dfC, 0), 4) else (bestL ls, 0)
/-- ablaut/learn.Best: 1 parameters, 0 captured -/
def s19 : SC := .seq (.reg [o1 2 (.alloc 32 4 [(.string ⟨#[]⟩), (.string ⟨#[]⟩), (.int .i64 0), (.string ⟨#[]⟩)]),
   o1 3 (.mv (cI 0)),
   o1 4 (.mv (cI 0))])
  (.seq (.seq (.reg [o1 8 (.mv (.t 0)),
     o1 9 (.call (.f 15) [(.t 8)]),
     o1 5 (.mv (.t 9))])
    (.seq (.reg [o1 10 (.mv (.t 5)),
      o1 11 (.bin .neq (.t 10) (cI 0))])
     (.cond (.t 11) (.seq (.reg [o1 12 (.build [(.string ⟨#[]⟩), (.string ⟨#[]⟩), (.int .i64 0), (.string ⟨#[]⟩)] []),
        o1 13 (.mv (.t 5)),
        o0 (.store 4 (.t 2) (.t 12)),
        o1 3 (.mv (cI 0)),
        o1 4 (.mv (.t 13))])
       (.ret)) (.skip))))
   (.seq (.reg [o1 15 (.mv (.t 0)),
     o1 16 (.call (.f 46) [(.t 15)]),
     o1 14 (.mv (.t 16)),
     o1 17 (.ext (.t 14) 0),
     o1 18 (.ext (.t 14) 1),
     o1 6 (.alloc 32 4 [(.string ⟨#[]⟩), (.string ⟨#[]⟩), (.int .i64 0), (.string ⟨#[]⟩)]),
     o0 (.store 4 (.t 6) (.t 17)),
     o1 7 (.mv (.t 18))])
    (.seq (.seq (.reg [o1 19 (.mv (.t 7)),
       o1 20 (.bin .lss (.t 19) (cI 1))])
      (.cond (.t 20) (.seq (.reg [o1 21 (.build [(.string ⟨#[]⟩), (.string ⟨#[]⟩), (.int .i64 0), (.string ⟨#[]⟩)] []),
         o0 (.store 4 (.t 2) (.t 21)),
         o1 3 (.mv (cI 0)),
         o1 4 (.mv (cI 4))])
        (.ret)) (.skip)))
     (.seq (.reg [o1 22 (.load (some 4) (.t 6)),
       o1 23 (.mv (.t 7)),
       o0 (.store 4 (.t 2) (.t 22)),
       o1 3 (.mv (.t 23)),
       o1 4 (.mv (cI 0))])
      (.ret)))))
theorem s19_ok : lookF Try.prog 19 = some (s19, 24, [.cell 2 (some 4), .tmp 3, .tmp 4]) := by kernel_rfl
theorem Best_ok (ls : List Lesson) (hs : SmLs ls) : Fn P 19 [sl ls] (beA (bestT ls)) := by
  have c2 := validateL_ok ls hs
  by_cases h2 : valL ls = 0
  · rw [h2] at c2
    have c3 := best0_ok ls (okLs h2) (smV_of hs)
    by_cases h1 : (bestL ls).2 < 1
    · rw [bestT, if_neg (by simpa using h2), if_pos h1]
      (refine fn_look s19_ok (by simp) (by intro k; simp only [go_sem, Nat.reduceEqDiff, ↓reduceIte, reduceCtorEq, Nat.reduceAdd, Nat.reduceMul, Int.reduceToNat, List.reduceReplicate, Nat.reduceLeDiff, Nat.reduceLT, Int.reduceLT, Int.reduceLE, Int.reduceEq]) fun S hS => cwp_sound _ _ _ _ ?_; simp (maxSteps := 900000) (disch := omega) only [s19, go_sem, Nat.reduceEqDiff, ↓reduceIte, reduceCtorEq, Nat.reduceAdd, Nat.reduceMul, Int.reduceToNat, List.reduceReplicate, Nat.reduceLeDiff, Nat.reduceLT, Int.reduceLT, Int.reduceLE, Int.reduceEq])
      repeat' (first | with_reducible refine inw ?_ | simp (maxSteps := 900000) (disch := omega) only [go_sem, Nat.reduceEqDiff, ↓reduceIte, reduceCtorEq, Nat.reduceAdd, Nat.reduceMul, Int.reduceToNat, List.reduceReplicate, Nat.reduceLeDiff, Nat.reduceLT, Int.reduceLT, Int.reduceLE, Int.reduceEq] | (with_reducible apply call (c2)); (focus simp (maxSteps := 900000) (disch := omega) only [go_sem, Nat.reduceEqDiff, ↓reduceIte, reduceCtorEq, Nat.reduceAdd, Nat.reduceMul, Int.reduceToNat, List.reduceReplicate, Nat.reduceLeDiff, Nat.reduceLT, Int.reduceLT, Int.reduceLE, Int.reduceEq] <;> rfl) | (with_reducible apply call (c3)); (focus simp (maxSteps := 900000) (disch := omega) only [go_sem, Nat.reduceEqDiff, ↓reduceIte, reduceCtorEq, Nat.reduceAdd, Nat.reduceMul, Int.reduceToNat, List.reduceReplicate, Nat.reduceLeDiff, Nat.reduceLT, Int.reduceLT, Int.reduceLE, Int.reduceEq] <;> rfl) | with_reducible refine giv_intro fun _h => ?_ | with_reducible refine alt_intro ?_ fun _h => ?_ | with_reducible refine pickD_nil ?_ | (with_reducible refine brc (fun _h => ?_) fun _h => ?_) <;> first | (exfalso; omega) | simp only [decide_eq_false _h] | simp only [(_h : (_ : Bool) = _)] | simp only [decide_eq_true _h] | skip)
      all_goals first | rfl | (exfalso; omega)
    · rw [bestT, if_neg (by simpa using h2), if_neg h1]
      (refine fn_look s19_ok (by simp) (by intro k; simp only [go_sem, Nat.reduceEqDiff, ↓reduceIte, reduceCtorEq, Nat.reduceAdd, Nat.reduceMul, Int.reduceToNat, List.reduceReplicate, Nat.reduceLeDiff, Nat.reduceLT, Int.reduceLT, Int.reduceLE, Int.reduceEq]) fun S hS => cwp_sound _ _ _ _ ?_; simp (maxSteps := 900000) (disch := omega) only [s19, go_sem, Nat.reduceEqDiff, ↓reduceIte, reduceCtorEq, Nat.reduceAdd, Nat.reduceMul, Int.reduceToNat, List.reduceReplicate, Nat.reduceLeDiff, Nat.reduceLT, Int.reduceLT, Int.reduceLE, Int.reduceEq])
      repeat' (first | with_reducible refine inw ?_ | simp (maxSteps := 900000) (disch := omega) only [go_sem, Nat.reduceEqDiff, ↓reduceIte, reduceCtorEq, Nat.reduceAdd, Nat.reduceMul, Int.reduceToNat, List.reduceReplicate, Nat.reduceLeDiff, Nat.reduceLT, Int.reduceLT, Int.reduceLE, Int.reduceEq] | (with_reducible apply call (c2)); (focus simp (maxSteps := 900000) (disch := omega) only [go_sem, Nat.reduceEqDiff, ↓reduceIte, reduceCtorEq, Nat.reduceAdd, Nat.reduceMul, Int.reduceToNat, List.reduceReplicate, Nat.reduceLeDiff, Nat.reduceLT, Int.reduceLT, Int.reduceLE, Int.reduceEq] <;> rfl) | (with_reducible apply call (c3)); (focus simp (maxSteps := 900000) (disch := omega) only [go_sem, Nat.reduceEqDiff, ↓reduceIte, reduceCtorEq, Nat.reduceAdd, Nat.reduceMul, Int.reduceToNat, List.reduceReplicate, Nat.reduceLeDiff, Nat.reduceLT, Int.reduceLT, Int.reduceLE, Int.reduceEq] <;> rfl) | with_reducible refine giv_intro fun _h => ?_ | with_reducible refine alt_intro ?_ fun _h => ?_ | with_reducible refine pickD_nil ?_ | (with_reducible refine brc (fun _h => ?_) fun _h => ?_) <;> first | (exfalso; omega) | simp only [decide_eq_false _h] | simp only [(_h : (_ : Bool) = _)] | simp only [decide_eq_true _h] | skip)
      all_goals first | rfl | (exfalso; omega)
  · rw [bestT, if_pos h2]
    (refine fn_look s19_ok (by simp) (by intro k; simp only [go_sem, Nat.reduceEqDiff, ↓reduceIte, reduceCtorEq, Nat.reduceAdd, Nat.reduceMul, Int.reduceToNat, List.reduceReplicate, Nat.reduceLeDiff, Nat.reduceLT, Int.reduceLT, Int.reduceLE, Int.reduceEq]) fun S hS => cwp_sound _ _ _ _ ?_; simp (maxSteps := 900000) (disch := omega) only [s19, go_sem, Nat.reduceEqDiff, ↓reduceIte, reduceCtorEq, Nat.reduceAdd, Nat.reduceMul, Int.reduceToNat, List.reduceReplicate, Nat.reduceLeDiff, Nat.reduceLT, Int.reduceLT, Int.reduceLE, Int.reduceEq])
    repeat' (first | with_reducible refine inw ?_ | simp (maxSteps := 900000) (disch := omega) only [go_sem, Nat.reduceEqDiff, ↓reduceIte, reduceCtorEq, Nat.reduceAdd, Nat.reduceMul, Int.reduceToNat, List.reduceReplicate, Nat.reduceLeDiff, Nat.reduceLT, Int.reduceLT, Int.reduceLE, Int.reduceEq] | (with_reducible apply call (c2)); (focus simp (maxSteps := 900000) (disch := omega) only [go_sem, Nat.reduceEqDiff, ↓reduceIte, reduceCtorEq, Nat.reduceAdd, Nat.reduceMul, Int.reduceToNat, List.reduceReplicate, Nat.reduceLeDiff, Nat.reduceLT, Int.reduceLT, Int.reduceLE, Int.reduceEq] <;> rfl) | with_reducible refine giv_intro fun _h => ?_ | with_reducible refine alt_intro ?_ fun _h => ?_ | with_reducible refine pickD_nil ?_ | (with_reducible refine brc (fun _h => ?_) fun _h => ?_) <;> first | (exfalso; omega) | simp only [decide_eq_false _h] | simp only [(_h : (_ : Bool) = _)] | simp only [decide_eq_true _h] | skip)
    all_goals first | rfl | (exfalso; omega)
/-! ### the document's example -/
def exW : List Str := [⟨#[116, 111]⟩, ⟨#[114, 117, 110]⟩]
def exT : List Str := [⟨#[80]⟩, ⟨#[78]⟩]
def exR : List Str := [⟨#[80]⟩, ⟨#[86]⟩]
def exL : List Lesson := [(exW, exT, exR)]
def exC : Change := (⟨#[78]⟩, ⟨#[86]⟩, 0, ⟨#[80]⟩)
/-- ablaut/ablautlaw22.example: 0 parameters, 0 captured -/
def s34 : SC := .seq (.reg [o1 0 (.mv (.c (.slice none 0 0)))])
  (.seq (.reg [o1 1 (.buildSl 9 1 2 [(.string ⟨#[]⟩)] [(0, 1, (.c (.string ⟨#[116, 111]⟩))), (1, 1, (.c (.string ⟨#[114, 117, 110]⟩)))]),
    o1 2 (.buildSl 9 1 2 [(.string ⟨#[]⟩)] [(0, 1, (.c (.string ⟨#[80]⟩))), (1, 1, (.c (.string ⟨#[78]⟩)))]),
    o1 3 (.buildSl 9 1 2 [(.string ⟨#[]⟩)] [(0, 1, (.c (.string ⟨#[80]⟩))), (1, 1, (.c (.string ⟨#[86]⟩)))]),
    o1 4 (.build [(.slice none 0 0), (.slice none 0 0), (.slice none 0 0)] [(0, 1, (.t 1)), (1, 1, (.t 2)), (2, 1, (.t 3))]),
    o1 5 (.buildSl 56 3 1 [(.slice none 0 0), (.slice none 0 0), (.slice none 0 0)] [(0, 3, (.t 4))]),
    o1 0 (.mv (.t 5))])
   (.ret))
theorem s34_ok : lookF Try.prog 34 = some (s34, 6, [.tmp 0]) := by kernel_rfl
theorem example_ok : Fn P 34 [] (sl exL) := by
  (refine fn_look s34_ok (by simp) (by intro k; simp only [go_sem, Nat.reduceEqDiff, ↓reduceIte, reduceCtorEq, Nat.reduceAdd, Nat.reduceMul, Int.reduceToNat, List.reduceReplicate, Nat.reduceLeDiff, Nat.reduceLT, Int.reduceLT, Int.reduceLE, Int.reduceEq]) fun S hS => cwp_sound _ _ _ _ ?_; simp (maxSteps := 900000) (disch := omega) only [s34, go_sem, Nat.reduceEqDiff, ↓reduceIte, reduceCtorEq, Nat.reduceAdd, Nat.reduceMul, Int.reduceToNat, List.reduceReplicate, Nat.reduceLeDiff, Nat.reduceLT, Int.reduceLT, Int.reduceLE, Int.reduceEq])
  repeat' (first | with_reducible refine inw ?_ | simp (maxSteps := 900000) (disch := omega) only [go_sem, Nat.reduceEqDiff, ↓reduceIte, reduceCtorEq, Nat.reduceAdd, Nat.reduceMul, Int.reduceToNat, List.reduceReplicate, Nat.reduceLeDiff, Nat.reduceLT, Int.reduceLT, Int.reduceLE, Int.reduceEq] | with_reducible refine giv_intro fun _h => ?_ | with_reducible refine alt_intro ?_ fun _h => ?_ | with_reducible refine pickD_nil ?_ | (with_reducible refine brc (fun _h => ?_) fun _h => ?_) <;> first | (exfalso; omega) | simp only [decide_eq_false _h] | simp only [(_h : (_ : Bool) = _)] | simp only [decide_eq_true _h] | skip)
  all_goals rfl
theorem ex_val : valL exL = 0 := by decide
theorem ex_gain (c : Change) : gainL c exL = (if appB c exW exT 0 = true then (if (⟨#[80]⟩ : Str) = c.2.1 then 1 else 0) - (if (⟨#[80]⟩ : Str) = c.1 then 1 else 0) else 0) + (if appB c exW exT 1 = true then (if (⟨#[86]⟩ : Str) = c.2.1 then 1 else 0) - (if (⟨#[86]⟩ : Str) = c.1 then 1 else 0) else 0) := by
  show (0 : Int) + ((0 + _) + _) = _
  rw [Int.zero_add, Int.zero_add]
  rfl
theorem ex_best : bestL exL = (exC, 1) := by
  refine (best_eq (r := (exC, 1)) (.inr ⟨by decide, ⟨by decide, by decide⟩, by decide, fun c hc => ?_⟩)).symm
  show gainL c exL ≤ 1 ∧ (gainL c exL = 1 → aheadB c exC = false)
  rw [ex_gain]
  have h0 : appB c exW exT 0 = true → (⟨#[80]⟩ : Str) = c.1 := fun h => app_tag h
  have h1 : appB c exW exT 1 = true → (⟨#[78]⟩ : Str) = c.1 := fun h => app_tag h
  constructor
  · split <;> split <;> (repeat' split) <;> first | omega | (exfalso; have := h0 (by assumption); contradiction)
  · intro h
    have h2 : appB c exW exT 1 = true := by
      by_cases q : appB c exW exT 1 = true
      · exact q
      · exfalso
        rw [if_neg q] at h
        split at h
        · rename_i q2
          rw [if_pos (h0 q2)] at h
          split at h <;> omega
        · omega
    have e1 := h1 h2
    have q0 : ¬appB c exW exT 0 = true := fun q => by have := (h0 q).trans e1.symm; exact absurd this (by decide)
    rw [if_neg q0, if_pos h2, ← e1, if_neg (show ¬((⟨#[86]⟩ : Str) = ⟨#[78]⟩) by decide)] at h
    have e2 : (⟨#[86]⟩ : Str) = c.2.1 := by
      by_cases q : (⟨#[86]⟩ : Str) = c.2.1
      · exact q
      · rw [if_neg q] at h; omega
    obtain ⟨c1, c2, c3, c4⟩ := c
    simp only at e1 e2
    subst e1; subst e2
    have hk : 0 ≤ c3 ∧ c3 ≤ 9 := hc.1
    rw [aheadB, exC]
    simp only [ne_eq, not_true_eq_false, if_false]
    by_cases e3 : c3 = 0
    · subst e3
      simp only [not_true_eq_false, if_false]
      simp only [appB, Bool.and_eq_true, Bool.or_eq_true, List.any_eq_true] at h2
      rcases h2.2 with h3 | ⟨d, hd, h3⟩
      · simp at h3
      · have : d = -1 := by simpa [farD, nth] using hd
        subst this
        have e4 : (⟨#[80]⟩ : Str) = c4 := of_decide_eq_true h3
        rw [← e4]; exact ltB_ir _
    · rw [if_pos e3]
      exact decide_eq_false (by omega)
/-- ablaut/ablautlaw22.known: 0 parameters, 0 captured -/
def s12 : SC := .seq (.reg [o1 0 (.mv (cB false))])
  (.seq (.reg [o1 5 (.call (.f 34) []),
    o1 6 (.call (.f 19) [(.t 5)]),
    o1 4 (.mv (.t 6)),
    o1 7 (.ext (.t 4) 0),
    o1 8 (.ext (.t 4) 1),
    o1 9 (.ext (.t 4) 2),
    o1 1 (.alloc 32 4 [(.string ⟨#[]⟩), (.string ⟨#[]⟩), (.int .i64 0), (.string ⟨#[]⟩)]),
    o0 (.store 4 (.t 1) (.t 7)),
    o1 2 (.mv (.t 8)),
    o1 3 (.mv (.t 9))])
   (.seq (.reg [o1 10 (.load (some 4) (.t 1)),
     o1 11 (.build [(.string ⟨#[]⟩), (.string ⟨#[]⟩), (.int .i64 0), (.string ⟨#[]⟩)] [(0, 1, (.c (.string ⟨#[78]⟩))), (1, 1, (.c (.string ⟨#[86]⟩))), (2, 1, (cI 0)), (3, 1, (.c (.string ⟨#[80]⟩)))]),
     o1 12 (.eqS false [(.str, 0), (.str, 1), ((.int .i64), 2), (.str, 3)] (.t 10) (.t 11)),
     o1 13 (.mv (.t 12)),
     oT 14 (.mv (.t 2)) 13,
     oT 15 (.bin .eql (.t 14) (cI 1)) 13,
     o1 16 (.pick (.t 13) (.t 15) (cB false)),
     o1 17 (.mv (.t 16)),
     oT 18 (.mv (.t 3)) 17,
     oT 19 (.bin .eql (.t 18) (cI 0)) 17,
     o1 20 (.pick (.t 17) (.t 19) (cB false)),
     o1 0 (.mv (.t 20))])
    (.ret)))
theorem s12_ok : lookF Try.prog 12 = some (s12, 21, [.tmp 0]) := by kernel_rfl
theorem known_ok : Fn P 12 [] (boolA true) := by
  have c1 := Best_ok exL (by decide)
  rw [bestT, if_neg (by rw [ex_val]; decide), ex_best, if_neg (by decide)] at c1
  (refine fn_look s12_ok (by simp) (by intro k; simp only [go_sem, Nat.reduceEqDiff, ↓reduceIte, reduceCtorEq, Nat.reduceAdd, Nat.reduceMul, Int.reduceToNat, List.reduceReplicate, Nat.reduceLeDiff, Nat.reduceLT, Int.reduceLT, Int.reduceLE, Int.reduceEq]) fun S hS => cwp_sound _ _ _ _ ?_; simp (maxSteps := 900000) (disch := omega) only [s12, go_sem, Nat.reduceEqDiff, ↓reduceIte, reduceCtorEq, Nat.reduceAdd, Nat.reduceMul, Int.reduceToNat, List.reduceReplicate, Nat.reduceLeDiff, Nat.reduceLT, Int.reduceLT, Int.reduceLE, Int.reduceEq])
  repeat' (first | with_reducible refine inw ?_ | simp (maxSteps := 900000) (disch := omega) only [go_sem, Nat.reduceEqDiff, ↓reduceIte, reduceCtorEq, Nat.reduceAdd, Nat.reduceMul, Int.reduceToNat, List.reduceReplicate, Nat.reduceLeDiff, Nat.reduceLT, Int.reduceLT, Int.reduceLE, Int.reduceEq] | (with_reducible apply call (example_ok)); (focus simp (maxSteps := 900000) (disch := omega) only [go_sem, Nat.reduceEqDiff, ↓reduceIte, reduceCtorEq, Nat.reduceAdd, Nat.reduceMul, Int.reduceToNat, List.reduceReplicate, Nat.reduceLeDiff, Nat.reduceLT, Int.reduceLT, Int.reduceLE, Int.reduceEq] <;> rfl) | (with_reducible apply call (c1)); (focus simp (maxSteps := 900000) (disch := omega) only [go_sem, Nat.reduceEqDiff, ↓reduceIte, reduceCtorEq, Nat.reduceAdd, Nat.reduceMul, Int.reduceToNat, List.reduceReplicate, Nat.reduceLeDiff, Nat.reduceLT, Int.reduceLT, Int.reduceLE, Int.reduceEq] <;> rfl) | with_reducible refine giv_intro fun _h => ?_ | with_reducible refine alt_intro ?_ fun _h => ?_ | with_reducible refine pickD_nil ?_ | (with_reducible refine brc (fun _h => ?_) fun _h => ?_) <;> first | (exfalso; omega) | simp only [decide_eq_false _h] | simp only [(_h : (_ : Bool) = _)] | simp only [decide_eq_true _h] | skip)
  exact absurd _h (by decide)

/-! ### how much comes in -/
def wS (s : Str) : Nat := 1 + s.size
def wL (l : List Str) : Nat := (l.map wS).sum
def wLL (ll : List (List Str)) : Nat := (ll.map wL).sum
theorem sum_step {α : Type} {k : Nat} [Enc α k] (f : α → Nat) {l : List α} {i : Nat} (h : i < l.length) : ((l.take (i + 1)).map f).sum = ((l.take i).map f).sum + f (nth l i) := by
  rw [List.take_add_one, nth_get? h]; simp
theorem sum_take {α : Type} (f : α → Nat) (l : List α) (i : Nat) : ((l.take i).map f).sum ≤ (l.map f).sum := by
  have h := congrArg (fun l => (l.map f).sum) (List.take_append_drop i l)
  simp only [List.map_append, List.sum_append] at h
  omega
/-- ablaut/ablautref02.IsLong: 1 parameters, 0 captured -/
def s21 : SC := .seq (.reg [o1 2 (.mv (cB false))])
  (.seq (.reg [o1 3 (.mv (cI 0))])
   (.seq (.seq (.reg [o1 4 (.mv (cI 0))])
     (.block 0 (.loop (.seq (.seq (.reg [o1 6 (.mv (.t 4)),
          o1 7 (.mv (.t 0)),
          o1 8 (.lenL (.t 7)),
          o1 9 (.bin .lss (.t 6) (.t 8)),
          o1 10 (.mv (.t 9)),
          oT 11 (.mv (.t 3)) 10,
          oT 12 (.bin .leq (.t 11) (cI 16384)) 10,
          o1 13 (.pick (.t 10) (.t 12) (cB false))])
         (.cond (.t 13) (.skip) (.exit 0)))
        (.seq (.block 1 (.seq (.reg [o1 5 (.mv (cI 0))])
           (.block 2 (.loop (.seq (.seq (.reg [o1 16 (.mv (.t 5)),
                o1 17 (.mv (.t 0)),
                o1 18 (.mv (.t 4)),
                o1 19 (.iaddr 1 (.t 17) (.t 18)),
                o1 20 (.load none (.t 19)),
                o1 21 (.lenL (.t 20)),
                o1 22 (.bin .lss (.t 16) (.t 21)),
                o1 23 (.mv (.t 22)),
                oT 24 (.mv (.t 3)) 23,
                oT 25 (.bin .leq (.t 24) (cI 16384)) 23,
                o1 26 (.pick (.t 23) (.t 25) (cB false))])
               (.cond (.t 26) (.skip) (.exit 2)))
              (.seq (.block 3 (.reg [o1 29 (.mv (.t 3)),
                 o1 30 (.mv (.t 0)),
                 o1 31 (.mv (.t 4)),
                 o1 32 (.iaddr 1 (.t 30) (.t 31)),
                 o1 33 (.load none (.t 32)),
                 o1 34 (.mv (.t 5)),
                 o1 35 (.iaddr 1 (.t 33) (.t 34)),
                 o1 36 (.load none (.t 35)),
                 o1 37 (.lenS (.t 36)),
                 o1 38 (.bin .add (cI 1) (.t 37)),
                 o1 39 (.bin .add (.t 29) (.t 38)),
                 o1 3 (.mv (.t 39))]))
               (.reg [o1 27 (.mv (.t 5)),
                o1 28 (.bin .add (.t 27) (cI 1)),
                o1 5 (.mv (.t 28))])))))))
         (.reg [o1 14 (.mv (.t 4)),
          o1 15 (.bin .add (.t 14) (cI 1)),
          o1 4 (.mv (.t 15))]))))))
    (.seq (.reg [o1 40 (.mv (.t 3)),
      o1 41 (.bin .gtr (.t 40) (cI 16384)),
      o1 2 (.mv (.t 41))])
     (.ret))))
theorem s21_ok : lookF Try.prog 21 = some (s21, 42, [.tmp 2]) := by kernel_rfl
set_option maxHeartbeats 1000000 in
theorem IsLong_ok (ll : List (List Str)) (hs : ∀ l ∈ ll, ∀ s ∈ l, s.size ≤ 4611686018427387904) : Fn P 21 [sl ll] (boolA (decide (16384 < wLL ll))) := by
  (refine fn_look s21_ok (by simp) (by intro k; simp only [go_sem, Nat.reduceEqDiff, ↓reduceIte, reduceCtorEq, Nat.reduceAdd, Nat.reduceMul, Int.reduceToNat, List.reduceReplicate, Nat.reduceLeDiff, Nat.reduceLT, Int.reduceLT, Int.reduceLE, Int.reduceEq]) fun S hS => cwp_sound _ _ _ _ ?_; simp (maxSteps := 900000) (disch := omega) only [s21, go_sem, Nat.reduceEqDiff, ↓reduceIte, reduceCtorEq, Nat.reduceAdd, Nat.reduceMul, Int.reduceToNat, List.reduceReplicate, Nat.reduceLeDiff, Nat.reduceLT, Int.reduceLT, Int.reduceLE, Int.reduceEq])
  repeat' (first | with_reducible refine inw ?_ | simp (maxSteps := 900000) (disch := omega) only [go_sem, Nat.reduceEqDiff, ↓reduceIte, reduceCtorEq, Nat.reduceAdd, Nat.reduceMul, Int.reduceToNat, List.reduceReplicate, Nat.reduceLeDiff, Nat.reduceLT, Int.reduceLT, Int.reduceLE, Int.reduceEq] | with_reducible refine giv_intro fun _h => ?_ | with_reducible refine alt_intro ?_ fun _h => ?_ | with_reducible refine pickD_nil ?_ | (with_reducible refine brc (fun _h => ?_) fun _h => ?_) <;> first | (exfalso; omega) | simp only [decide_eq_false _h] | simp only [(_h : (_ : Bool) = _)] | simp only [decide_eq_true _h] | skip)
  (refine loopC hS [0] (by simp only [go_sem, Nat.reduceEqDiff, ↓reduceIte, reduceCtorEq, Nat.reduceAdd, Nat.reduceMul, Int.reduceToNat, List.reduceReplicate, Nat.reduceLeDiff, Nat.reduceLT, Int.reduceLT, Int.reduceLE, Int.reduceEq]; try rfl) (fun (⟨n, i⟩ : Nat × Nat) => [(3, intA n), (4, intA i)]) (fun (⟨n, i⟩ : Nat × Nat) => []) (fun (⟨n, i⟩ : Nat × Nat) => i ≤ ll.length ∧ (n = wLL (ll.take i) ∨ 16384 < n ∧ 16384 < wLL ll)) (fun (⟨n, i⟩ : Nat × Nat) => ll.length - i) ((0, 0)) ?h01 ?hn1 ?rd1; case hn1 => (intro s; first | rfl | (rcases s with ⟨_, _⟩; rfl) | (rcases s with ⟨_, _, _⟩; rfl) | (rcases s with ⟨_, _, _, _⟩; rfl) | (rcases s with ⟨_, _, _, _, _⟩; rfl)))
  · simp (maxSteps := 900000) (disch := omega) only [go_sem, Nat.reduceEqDiff, ↓reduceIte, reduceCtorEq, Nat.reduceAdd, Nat.reduceMul, Int.reduceToNat, List.reduceReplicate, Nat.reduceLeDiff, Nat.reduceLT, Int.reduceLT, Int.reduceLE, Int.reduceEq]; simp [wLL]
  rintro ⟨n, i⟩ ⟨hi, hn⟩
  replace hi : i ≤ ll.length := hi
  replace hn : n = wLL (ll.take i) ∨ 16384 < n ∧ 16384 < wLL ll := hn
  have hle : wLL (ll.take i) ≤ wLL ll := sum_take wL ll i
  by_cases hil : i < ll.length
  · have e1 : wLL (ll.take (i + 1)) = wLL (ll.take i) + wL (nth ll i) := sum_step wL hil
    have hl1 : wLL (ll.take (i + 1)) ≤ wLL ll := sum_take wL ll (i + 1)
    by_cases hb : n ≤ 16384
    · have hn0 : n = wLL (ll.take i) := by omega
      repeat' (first | with_reducible refine inw ?_ | simp (maxSteps := 900000) (disch := omega) only [go_sem, Nat.reduceEqDiff, ↓reduceIte, reduceCtorEq, Nat.reduceAdd, Nat.reduceMul, Int.reduceToNat, List.reduceReplicate, Nat.reduceLeDiff, Nat.reduceLT, Int.reduceLT, Int.reduceLE, Int.reduceEq] | with_reducible refine giv_intro fun _h => ?_ | with_reducible refine alt_intro ?_ fun _h => ?_ | with_reducible refine pickD_nil ?_ | (with_reducible refine brc (fun _h => ?_) fun _h => ?_) <;> first | (exfalso; omega) | simp only [decide_eq_false _h] | simp only [(_h : (_ : Bool) = _)] | simp only [decide_eq_true _h] | skip)
      (refine loopC hS [0, 4] (by simp only [go_sem, Nat.reduceEqDiff, ↓reduceIte, reduceCtorEq, Nat.reduceAdd, Nat.reduceMul, Int.reduceToNat, List.reduceReplicate, Nat.reduceLeDiff, Nat.reduceLT, Int.reduceLT, Int.reduceLE, Int.reduceEq]; try rfl) (fun (⟨n, k⟩ : Nat × Nat) => [(3, intA n), (5, intA k)]) (fun (⟨n, k⟩ : Nat × Nat) => []) (fun (⟨n, k⟩ : Nat × Nat) => k ≤ (nth ll i).length ∧ (n = wLL (ll.take i) + wL ((nth ll i).take k) ∨ 16384 < n ∧ 16384 < wLL ll)) (fun (⟨n, k⟩ : Nat × Nat) => (nth ll i).length - k) ((n, 0)) ?h02 ?hn2 ?rd2; case hn2 => (intro s; first | rfl | (rcases s with ⟨_, _⟩; rfl) | (rcases s with ⟨_, _, _⟩; rfl) | (rcases s with ⟨_, _, _, _⟩; rfl) | (rcases s with ⟨_, _, _, _, _⟩; rfl)))
      · simp (maxSteps := 900000) (disch := omega) only [go_sem, Nat.reduceEqDiff, ↓reduceIte, reduceCtorEq, Nat.reduceAdd, Nat.reduceMul, Int.reduceToNat, List.reduceReplicate, Nat.reduceLeDiff, Nat.reduceLT, Int.reduceLT, Int.reduceLE, Int.reduceEq]; simp [wL]; omega
      rintro ⟨n2, k⟩ ⟨hk, hn2⟩
      replace hk : k ≤ (nth ll i).length := hk
      replace hn2 : n2 = wLL (ll.take i) + wL ((nth ll i).take k) ∨ 16384 < n2 ∧ 16384 < wLL ll := hn2
      by_cases hkl : k < (nth ll i).length
      · have e2 : wL ((nth ll i).take (k + 1)) = wL ((nth ll i).take k) + wS (nth (nth ll i) k) := sum_step wS hkl
        have hl2 : wL ((nth ll i).take (k + 1)) ≤ wL (nth ll i) := sum_take wS (nth ll i) (k + 1)
        have hw : wS (nth (nth ll i) k) = 1 + (nth (nth ll i) k).size := rfl
        have hz := hs _ (nth_mem hil) _ (nth_mem hkl)
        by_cases hb2 : n2 ≤ 16384
        · have hn02 : n2 = wLL (ll.take i) + wL ((nth ll i).take k) := by omega
          repeat' (first | with_reducible refine inw ?_ | simp (maxSteps := 900000) (disch := omega) only [go_sem, Nat.reduceEqDiff, ↓reduceIte, reduceCtorEq, Nat.reduceAdd, Nat.reduceMul, Int.reduceToNat, List.reduceReplicate, Nat.reduceLeDiff, Nat.reduceLT, Int.reduceLT, Int.reduceLE, Int.reduceEq] | with_reducible refine giv_intro fun _h => ?_ | with_reducible refine alt_intro ?_ fun _h => ?_ | with_reducible refine pickD_nil ?_ | (with_reducible refine brc (fun _h => ?_) fun _h => ?_) <;> first | (exfalso; omega) | simp only [decide_eq_false _h] | simp only [(_h : (_ : Bool) = _)] | simp only [decide_eq_true _h] | skip)
          refine ⟨(n2 + (1 + (nth (nth ll i) k).size), k + 1), ⟨?_, ?_, ?_⟩, ?_, ?_⟩ <;> dsimp only <;> omega
        · repeat' (first | with_reducible refine inw ?_ | simp (maxSteps := 900000) (disch := omega) only [go_sem, Nat.reduceEqDiff, ↓reduceIte, reduceCtorEq, Nat.reduceAdd, Nat.reduceMul, Int.reduceToNat, List.reduceReplicate, Nat.reduceLeDiff, Nat.reduceLT, Int.reduceLT, Int.reduceLE, Int.reduceEq] | with_reducible refine giv_intro fun _h => ?_ | with_reducible refine alt_intro ?_ fun _h => ?_ | with_reducible refine pickD_nil ?_ | (with_reducible refine brc (fun _h => ?_) fun _h => ?_) <;> first | (exfalso; omega) | simp only [decide_eq_false _h] | simp only [(_h : (_ : Bool) = _)] | simp only [decide_eq_true _h] | skip)
          refine ⟨(n2, i + 1), ⟨?_, ?_, ?_⟩, ?_, ?_⟩ <;> dsimp only <;> omega
      · have hk0 : k = (nth ll i).length := by omega
        subst hk0
        rw [List.take_length] at hn2
        repeat' (first | with_reducible refine inw ?_ | simp (maxSteps := 900000) (disch := omega) only [go_sem, Nat.reduceEqDiff, ↓reduceIte, reduceCtorEq, Nat.reduceAdd, Nat.reduceMul, Int.reduceToNat, List.reduceReplicate, Nat.reduceLeDiff, Nat.reduceLT, Int.reduceLT, Int.reduceLE, Int.reduceEq] | with_reducible refine giv_intro fun _h => ?_ | with_reducible refine alt_intro ?_ fun _h => ?_ | with_reducible refine pickD_nil ?_ | (with_reducible refine brc (fun _h => ?_) fun _h => ?_) <;> first | (exfalso; omega) | simp only [decide_eq_false _h] | simp only [(_h : (_ : Bool) = _)] | simp only [decide_eq_true _h] | skip)
        refine ⟨(n2, i + 1), ⟨?_, ?_, ?_⟩, ?_, ?_⟩ <;> dsimp only <;> omega
    · repeat' (first | with_reducible refine inw ?_ | simp (maxSteps := 900000) (disch := omega) only [go_sem, Nat.reduceEqDiff, ↓reduceIte, reduceCtorEq, Nat.reduceAdd, Nat.reduceMul, Int.reduceToNat, List.reduceReplicate, Nat.reduceLeDiff, Nat.reduceLT, Int.reduceLT, Int.reduceLE, Int.reduceEq] | with_reducible refine giv_intro fun _h => ?_ | with_reducible refine alt_intro ?_ fun _h => ?_ | with_reducible refine pickD_nil ?_ | (with_reducible refine brc (fun _h => ?_) fun _h => ?_) <;> first | (exfalso; omega) | simp only [decide_eq_false _h] | simp only [(_h : (_ : Bool) = _)] | simp only [decide_eq_true _h] | skip)
      simp; omega
  · have hi0 : i = ll.length := by omega
    subst hi0
    rw [List.take_length] at hn
    repeat' (first | with_reducible refine inw ?_ | simp (maxSteps := 900000) (disch := omega) only [go_sem, Nat.reduceEqDiff, ↓reduceIte, reduceCtorEq, Nat.reduceAdd, Nat.reduceMul, Int.reduceToNat, List.reduceReplicate, Nat.reduceLeDiff, Nat.reduceLT, Int.reduceLT, Int.reduceLE, Int.reduceEq] | with_reducible refine giv_intro fun _h => ?_ | with_reducible refine alt_intro ?_ fun _h => ?_ | with_reducible refine pickD_nil ?_ | (with_reducible refine brc (fun _h => ?_) fun _h => ?_) <;> first | (exfalso; omega) | simp only [decide_eq_false _h] | simp only [(_h : (_ : Bool) = _)] | simp only [decide_eq_true _h] | skip)
    simp; omega
/-- ablaut/ablautlaw22.overChanges: 1 parameters, 0 captured -/
def s10 : SC := .seq (.reg [o1 2 (.mv (cB false))])
  (.seq (.reg [o1 5 (.mv (.t 0)),
    o1 6 (.lenL (.t 5)),
    o1 3 (.mv (.t 6))])
   (.seq (.seq (.reg [o1 4 (.mv (cI 0))])
     (.block 0 (.loop (.seq (.seq (.reg [o1 7 (.mv (.t 4)),
          o1 8 (.mv (.t 0)),
          o1 9 (.lenL (.t 8)),
          o1 10 (.bin .lss (.t 7) (.t 9)),
          o1 11 (.mv (.t 10)),
          oT 12 (.mv (.t 3)) 11,
          oT 13 (.bin .lss (.t 12) (cI 16384)) 11,
          o1 14 (.pick (.t 11) (.t 13) (cB false))])
         (.cond (.t 14) (.skip) (.exit 0)))
        (.seq (.block 1 (.regD [o1 17 (.mv (.t 3)),
           o1 18 (.mv (.t 0)),
           o1 19 (.mv (.t 4)),
           o1 20 (.iaddr 4 (.t 18) (.t 19)),
           o1 21 (.faddr 0 (.t 20)),
           o1 22 (.load none (.t 21)),
           o1 23 (.lenS (.t 22)),
           o1 24 (.mv (.t 0)),
           o1 25 (.mv (.t 4)),
           o1 26 (.iaddr 4 (.t 24) (.t 25)),
           o1 27 (.faddr 1 (.t 26)),
           o1 28 (.load none (.t 27)),
           o1 29 (.lenS (.t 28)),
           o1 30 (.bin .add (.t 23) (.t 29)),
           o1 31 (.mv (.t 0)),
           o1 32 (.mv (.t 4)),
           o1 33 (.iaddr 4 (.t 31) (.t 32)),
           o1 34 (.faddr 3 (.t 33)),
           o1 35 (.load none (.t 34)),
           o1 36 (.lenS (.t 35)),
           o1 37 (.bin .add (.t 30) (.t 36)),
           o1 38 (.bin .add (.t 17) (.t 37)),
           o1 3 (.mv (.t 38))]))
         (.reg [o1 15 (.mv (.t 4)),
          o1 16 (.bin .add (.t 15) (cI 1)),
          o1 4 (.mv (.t 16))]))))))
    (.seq (.reg [o1 39 (.mv (.t 3)),
      o1 40 (.bin .geq (.t 39) (cI 16384)),
      o1 2 (.mv (.t 40))])
     (.ret))))
theorem s10_ok : lookF Try.prog 10 = some (s10, 41, [.tmp 2]) := by kernel_rfl
theorem overC_ok (l : List Change) : FnR P 10 [sl l] (fun r => ∃ b, r = boolA b) := by
  (refine fnR_look s10_ok (by simp) ((by rintro _ ⟨b, rfl⟩ k; simp only [AV.bel])) fun S hS => cwp_sound _ _ _ _ ?_; simp (maxSteps := 900000) (disch := omega) only [s10, go_sem, Nat.reduceEqDiff, ↓reduceIte, reduceCtorEq, Nat.reduceAdd, Nat.reduceMul, Int.reduceToNat, List.reduceReplicate, Nat.reduceLeDiff, Nat.reduceLT, Int.reduceLT, Int.reduceLE, Int.reduceEq])
  repeat' (first | with_reducible refine inw ?_ | simp (maxSteps := 900000) (disch := omega) only [go_sem, Nat.reduceEqDiff, ↓reduceIte, reduceCtorEq, Nat.reduceAdd, Nat.reduceMul, Int.reduceToNat, List.reduceReplicate, Nat.reduceLeDiff, Nat.reduceLT, Int.reduceLT, Int.reduceLE, Int.reduceEq] | with_reducible refine giv_intro fun _h => ?_ | with_reducible refine alt_intro ?_ fun _h => ?_ | with_reducible refine pickD_nil ?_ | (with_reducible refine brc (fun _h => ?_) fun _h => ?_) <;> first | (exfalso; omega) | simp only [decide_eq_false _h] | simp only [(_h : (_ : Bool) = _)] | simp only [decide_eq_true _h] | skip)
  (refine loopC hS [0] (by simp only [go_sem, Nat.reduceEqDiff, ↓reduceIte, reduceCtorEq, Nat.reduceAdd, Nat.reduceMul, Int.reduceToNat, List.reduceReplicate, Nat.reduceLeDiff, Nat.reduceLT, Int.reduceLT, Int.reduceLE, Int.reduceEq]; try rfl) (fun (⟨n, i⟩ : Int × Nat) => [(3, intA n), (4, intA i)]) (fun (⟨n, i⟩ : Int × Nat) => []) (fun (⟨n, i⟩ : Int × Nat) => i ≤ l.length) (fun (⟨n, i⟩ : Int × Nat) => l.length - i) (((l.length : Int), 0)) ?h03 ?hn3 ?rd3; case hn3 => (intro s; first | rfl | (rcases s with ⟨_, _⟩; rfl) | (rcases s with ⟨_, _, _⟩; rfl) | (rcases s with ⟨_, _, _, _⟩; rfl) | (rcases s with ⟨_, _, _, _, _⟩; rfl)))
  · simp (maxSteps := 900000) (disch := omega) only [go_sem, Nat.reduceEqDiff, ↓reduceIte, reduceCtorEq, Nat.reduceAdd, Nat.reduceMul, Int.reduceToNat, List.reduceReplicate, Nat.reduceLeDiff, Nat.reduceLT, Int.reduceLT, Int.reduceLE, Int.reduceEq]; simp
  rintro ⟨n, i⟩ hi
  replace hi : i ≤ l.length := hi
  by_cases hil : i < l.length
  · repeat' (first | with_reducible refine inw ?_ | simp (maxSteps := 900000) (disch := omega) only [go_sem, Nat.reduceEqDiff, ↓reduceIte, reduceCtorEq, Nat.reduceAdd, Nat.reduceMul, Int.reduceToNat, List.reduceReplicate, Nat.reduceLeDiff, Nat.reduceLT, Int.reduceLT, Int.reduceLE, Int.reduceEq] | with_reducible refine giv_intro fun _h => ?_ | with_reducible refine alt_intro ?_ fun _h => ?_ | with_reducible refine pickD_nil ?_ | (with_reducible refine brc (fun _h => ?_) fun _h => ?_) <;> first | (exfalso; omega) | simp only [decide_eq_false _h] | simp only [(_h : (_ : Bool) = _)] | simp only [decide_eq_true _h] | skip)
    all_goals first
      | exact ⟨(_, i + 1), ⟨by omega, by omega⟩, rfl, by omega⟩
      | exact ⟨_, rfl⟩
  · have : i = l.length := by omega
    subst this
    repeat' (first | with_reducible refine inw ?_ | simp (maxSteps := 900000) (disch := omega) only [go_sem, Nat.reduceEqDiff, ↓reduceIte, reduceCtorEq, Nat.reduceAdd, Nat.reduceMul, Int.reduceToNat, List.reduceReplicate, Nat.reduceLeDiff, Nat.reduceLT, Int.reduceLT, Int.reduceLE, Int.reduceEq] | with_reducible refine giv_intro fun _h => ?_ | with_reducible refine alt_intro ?_ fun _h => ?_ | with_reducible refine pickD_nil ?_ | (with_reducible refine brc (fun _h => ?_) fun _h => ?_) <;> first | (exfalso; omega) | simp only [decide_eq_false _h] | simp only [(_h : (_ : Bool) = _)] | simp only [decide_eq_true _h] | skip)
    exact ⟨_, rfl⟩
/-- ablaut/ablautlaw22.over: 1 parameters, 0 captured -/
def s11 : SC := .seq (.reg [o1 2 (.mv (cB false))])
  (.seq (.reg [o1 5 (.mv (.t 0)),
    o1 6 (.lenL (.t 5)),
    o1 3 (.mv (.t 6))])
   (.seq (.seq (.reg [o1 4 (.mv (cI 0))])
     (.block 0 (.loop (.seq (.seq (.reg [o1 7 (.mv (.t 4)),
          o1 8 (.mv (.t 0)),
          o1 9 (.lenL (.t 8)),
          o1 10 (.bin .lss (.t 7) (.t 9)),
          o1 11 (.mv (.t 10)),
          oT 12 (.mv (.t 3)) 11,
          oT 13 (.bin .lss (.t 12) (cI 16384)) 11,
          o1 14 (.pick (.t 11) (.t 13) (cB false))])
         (.cond (.t 14) (.skip) (.exit 0)))
        (.seq (.block 1 (.seq (.seq (.regD [o1 17 (.mv (.t 0)),
             o1 18 (.mv (.t 4)),
             o1 19 (.iaddr 3 (.t 17) (.t 18)),
             o1 20 (.faddr 0 (.t 19)),
             o1 21 (.load none (.t 20)),
             o1 22 (.mv (.t 0)),
             o1 23 (.mv (.t 4)),
             o1 24 (.iaddr 3 (.t 22) (.t 23)),
             o1 25 (.faddr 1 (.t 24)),
             o1 26 (.load none (.t 25)),
             o1 27 (.mv (.t 0)),
             o1 28 (.mv (.t 4)),
             o1 29 (.iaddr 3 (.t 27) (.t 28)),
             o1 30 (.faddr 2 (.t 29)),
             o1 31 (.load none (.t 30)),
             o1 32 (.buildSl 40 1 3 [(.slice none 0 0)] [(0, 1, (.t 21)), (1, 1, (.t 26)), (2, 1, (.t 31))]),
             o1 33 (.call (.f 21) [(.t 32)])])
            (.cond (.t 33) (.seq (.reg [o1 2 (.mv (cB true))])
              (.ret)) (.skip)))
           (.regD [o1 34 (.mv (.t 3)),
            o1 35 (.mv (.t 0)),
            o1 36 (.mv (.t 4)),
            o1 37 (.iaddr 3 (.t 35) (.t 36)),
            o1 38 (.faddr 0 (.t 37)),
            o1 39 (.load none (.t 38)),
            o1 40 (.lenL (.t 39)),
            o1 41 (.mv (.t 0)),
            o1 42 (.mv (.t 4)),
            o1 43 (.iaddr 3 (.t 41) (.t 42)),
            o1 44 (.faddr 1 (.t 43)),
            o1 45 (.load none (.t 44)),
            o1 46 (.lenL (.t 45)),
            o1 47 (.bin .add (.t 40) (.t 46)),
            o1 48 (.mv (.t 0)),
            o1 49 (.mv (.t 4)),
            o1 50 (.iaddr 3 (.t 48) (.t 49)),
            o1 51 (.faddr 2 (.t 50)),
            o1 52 (.load none (.t 51)),
            o1 53 (.lenL (.t 52)),
            o1 54 (.bin .add (.t 47) (.t 53)),
            o1 55 (.bin .add (.t 34) (.t 54)),
            o1 3 (.mv (.t 55))])))
         (.reg [o1 15 (.mv (.t 4)),
          o1 16 (.bin .add (.t 15) (cI 1)),
          o1 4 (.mv (.t 16))]))))))
    (.seq (.reg [o1 56 (.mv (.t 3)),
      o1 57 (.bin .geq (.t 56) (cI 16384)),
      o1 2 (.mv (.t 57))])
     (.ret))))
theorem s11_ok : lookF Try.prog 11 = some (s11, 58, [.tmp 2]) := by kernel_rfl
theorem over_ok (ls : List Lesson) (hs : SmLs ls) : FnR P 11 [sl ls] (fun r => ∃ b, r = boolA b) := by
  (refine fnR_look s11_ok (by simp) ((by rintro _ ⟨b, rfl⟩ k; simp only [AV.bel])) fun S hS => cwp_sound _ _ _ _ ?_; simp (maxSteps := 900000) (disch := omega) only [s11, go_sem, Nat.reduceEqDiff, ↓reduceIte, reduceCtorEq, Nat.reduceAdd, Nat.reduceMul, Int.reduceToNat, List.reduceReplicate, Nat.reduceLeDiff, Nat.reduceLT, Int.reduceLT, Int.reduceLE, Int.reduceEq])
  repeat' (first | with_reducible refine inw ?_ | simp (maxSteps := 900000) (disch := omega) only [go_sem, Nat.reduceEqDiff, ↓reduceIte, reduceCtorEq, Nat.reduceAdd, Nat.reduceMul, Int.reduceToNat, List.reduceReplicate, Nat.reduceLeDiff, Nat.reduceLT, Int.reduceLT, Int.reduceLE, Int.reduceEq] | with_reducible refine giv_intro fun _h => ?_ | with_reducible refine alt_intro ?_ fun _h => ?_ | with_reducible refine pickD_nil ?_ | (with_reducible refine brc (fun _h => ?_) fun _h => ?_) <;> first | (exfalso; omega) | simp only [decide_eq_false _h] | simp only [(_h : (_ : Bool) = _)] | simp only [decide_eq_true _h] | skip)
  (refine loopC hS [0] (by simp only [go_sem, Nat.reduceEqDiff, ↓reduceIte, reduceCtorEq, Nat.reduceAdd, Nat.reduceMul, Int.reduceToNat, List.reduceReplicate, Nat.reduceLeDiff, Nat.reduceLT, Int.reduceLT, Int.reduceLE, Int.reduceEq]; try rfl) (fun (⟨n, i⟩ : Int × Nat) => [(3, intA n), (4, intA i)]) (fun (⟨n, i⟩ : Int × Nat) => []) (fun (⟨n, i⟩ : Int × Nat) => i ≤ ls.length) (fun (⟨n, i⟩ : Int × Nat) => ls.length - i) (((ls.length : Int), 0)) ?h04 ?hn4 ?rd4; case hn4 => (intro s; first | rfl | (rcases s with ⟨_, _⟩; rfl) | (rcases s with ⟨_, _, _⟩; rfl) | (rcases s with ⟨_, _, _, _⟩; rfl) | (rcases s with ⟨_, _, _, _, _⟩; rfl)))
  · simp (maxSteps := 900000) (disch := omega) only [go_sem, Nat.reduceEqDiff, ↓reduceIte, reduceCtorEq, Nat.reduceAdd, Nat.reduceMul, Int.reduceToNat, List.reduceReplicate, Nat.reduceLeDiff, Nat.reduceLT, Int.reduceLT, Int.reduceLE, Int.reduceEq]; simp
  rintro ⟨n, i⟩ hi
  replace hi : i ≤ ls.length := hi
  by_cases hil : i < ls.length
  · obtain ⟨s1, s2, s3⟩ := hs _ (nth_mem hil)
    have c1 := IsLong_ok [(nth ls i).1, (nth ls i).2.1, (nth ls i).2.2] (by simp; exact ⟨s1, s2, s3⟩)
    repeat' (first | with_reducible refine inw ?_ | simp (maxSteps := 900000) (disch := omega) only [go_sem, Nat.reduceEqDiff, ↓reduceIte, reduceCtorEq, Nat.reduceAdd, Nat.reduceMul, Int.reduceToNat, List.reduceReplicate, Nat.reduceLeDiff, Nat.reduceLT, Int.reduceLT, Int.reduceLE, Int.reduceEq] | (with_reducible apply callD_lend (c1)); (focus simp (maxSteps := 900000) (disch := omega) only [go_sem, Nat.reduceEqDiff, ↓reduceIte, reduceCtorEq, Nat.reduceAdd, Nat.reduceMul, Int.reduceToNat, List.reduceReplicate, Nat.reduceLeDiff, Nat.reduceLT, Int.reduceLT, Int.reduceLE, Int.reduceEq] <;> rfl); (focus rfl) | with_reducible refine giv_intro fun _h => ?_ | with_reducible refine alt_intro ?_ fun _h => ?_ | with_reducible refine pickD_nil ?_ | (with_reducible refine brc (fun _h => ?_) fun _h => ?_) <;> first | (exfalso; omega) | simp only [decide_eq_false _h] | simp only [(_h : (_ : Bool) = _)] | simp only [decide_eq_true _h] | skip)
    all_goals first
      | exact ⟨(_, i + 1), ⟨by omega, by omega⟩, rfl, by omega⟩
      | exact ⟨_, rfl⟩
  · have : i = ls.length := by omega
    subst this
    repeat' (first | with_reducible refine inw ?_ | simp (maxSteps := 900000) (disch := omega) only [go_sem, Nat.reduceEqDiff, ↓reduceIte, reduceCtorEq, Nat.reduceAdd, Nat.reduceMul, Int.reduceToNat, List.reduceReplicate, Nat.reduceLeDiff, Nat.reduceLT, Int.reduceLT, Int.reduceLE, Int.reduceEq] | with_reducible refine giv_intro fun _h => ?_ | with_reducible refine alt_intro ?_ fun _h => ?_ | with_reducible refine pickD_nil ?_ | (with_reducible refine brc (fun _h => ?_) fun _h => ?_) <;> first | (exfalso; omega) | simp only [decide_eq_false _h] | simp only [(_h : (_ : Bool) = _)] | simp only [decide_eq_true _h] | skip)
    exact ⟨_, rfl⟩
end Go.Proofs.Ytapgimibdamjoaa.Ev

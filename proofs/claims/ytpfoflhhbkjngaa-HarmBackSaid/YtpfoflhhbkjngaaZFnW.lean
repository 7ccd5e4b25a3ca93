/- Roots and forms. -/
import Derived.Test.YtpfoflhhbkjngaaZFnA
set_option linter.unusedVariables false
set_option linter.unusedSimpArgs false
namespace Go.Proofs.Ytpfoflhhbkjngaa.Ev
open Go Go.Proofs

/-- The number that a text of a form asks for, or 0. -/
def digit (s : Str) : Int := if s.size = 1 ∧ 49 ≤ byteAt s 0 ∧ byteAt s 0 ≤ 57 then byteAt s 0 - 48 else 0
theorem digit_range (x : Str) : 0 ≤ digit x ∧ digit x ≤ 9 := by unfold digit; split <;> omega

/-- ablaut/harm.asked: 1 parameters, 0 captured -/
def s57 : SC := .seq (.reg [o1 2 (.mv (cI 0))])
  (.seq (.seq (.reg [o1 3 (.mv (.t 0)),
     o1 4 (.lenS (.t 3)),
     o1 5 (.bin .eql (.t 4) (cI 1)),
     o1 6 (.mv (.t 5)),
     oT 7 (.mv (.t 0)) 6,
     oT 8 (.ixs (.t 7) (cI 0)) 6,
     oT 9 (.bin .geq (.t 8) (.c (.int .u8 49))) 6,
     o1 10 (.pick (.t 6) (.t 9) (cB false)),
     o1 11 (.mv (.t 10)),
     oT 12 (.mv (.t 0)) 11,
     oT 13 (.ixs (.t 12) (cI 0)) 11,
     oT 14 (.bin .leq (.t 13) (.c (.int .u8 57))) 11,
     o1 15 (.pick (.t 11) (.t 14) (cB false))])
    (.cond (.t 15) (.seq (.reg [o1 16 (.mv (.t 0)),
       o1 17 (.ixs (.t 16) (cI 0)),
       o1 18 (.bin .sub (.t 17) (.c (.int .u8 48))),
       o1 19 (.cvi .i64 (.t 18)),
       o1 2 (.mv (.t 19))])
      (.ret)) (.skip)))
   (.seq (.reg [o1 2 (.mv (cI 0))])
    (.ret)))
theorem s57_ok : lookF Try.prog 57 = some (s57, 20, [.tmp 2]) := by kernel_rfl
theorem asked_ok (s : Str) : Fn P 57 [strA s] (intA (digit s)) := by
  (refine fn_look s57_ok (by simp) (by intro k; simp only [go_sem, Nat.reduceEqDiff, ↓reduceIte, reduceCtorEq, Nat.reduceAdd, Nat.reduceMul, Int.reduceToNat, List.reduceReplicate, Nat.reduceLeDiff, Nat.reduceLT, Int.reduceLT, Int.reduceLE, Int.reduceEq]) fun S hS => cwp_sound _ _ _ _ ?_; simp (maxSteps := 900000) (disch := omega) only [s57, go_sem, Nat.reduceEqDiff, ↓reduceIte, reduceCtorEq, Nat.reduceAdd, Nat.reduceMul, Int.reduceToNat, List.reduceReplicate, Nat.reduceLeDiff, Nat.reduceLT, Int.reduceLT, Int.reduceLE, Int.reduceEq])
  have := byteAt_range s 0
  unfold digit
  repeat' (first | with_reducible refine inw ?_ | simp (maxSteps := 900000) (disch := omega) only [go_sem, Nat.reduceEqDiff, ↓reduceIte, reduceCtorEq, Nat.reduceAdd, Nat.reduceMul, Int.reduceToNat, List.reduceReplicate, Nat.reduceLeDiff, Nat.reduceLT, Int.reduceLT, Int.reduceLE, Int.reduceEq] | with_reducible refine pickB_f ?_ | with_reducible refine giv_intro fun _h => ?_ | with_reducible refine alt_intro ?_ fun _h => ?_ | with_reducible refine pickD_nil ?_ | (with_reducible refine brc (fun _h => ?_) fun _h => ?_) <;> first | (exfalso; omega) | simp only [decide_eq_false _h] | simp only [(_h : (_ : Bool) = _)] | simp only [decide_eq_true _h] | skip)
  all_goals (split <;> omega)

/-- A root in a form. -/
def weaveS (root : List Str) (s : Str) : Str := if digit s = 0 then s else nth root (min (digit s) root.length - 1).toNat
def weaveL (root form : List Str) : List Str := form.map (weaveS root)

/-- ablaut/harm.woven: 2 parameters, 0 captured -/
def s54 : SC := .seq (.reg [o1 4 (.mv (.c (.slice none 0 0)))])
  (.seq (.reg [o1 9 (.mv (.t 1)),
    o1 10 (.lenL (.t 9)),
    o1 11 (.mksl 9 1 16 [(.string ⟨#[]⟩)] (.t 10) (.t 10)),
    o1 5 (.mv (.t 11))])
   (.seq (.reg [o1 12 (.mv (.t 5)),
     o1 13 (.mv (.t 1)),
     o1 14 (.copy 1 (.t 12) (.t 13))])
    (.seq (.seq (.reg [o1 15 (.mv (.t 1)),
       o1 16 (.lenL (.t 15)),
       o1 17 (.mv (cI 0))])
      (.block 0 (.loop (.seq (.reg [o1 18 (.bin .lss (.t 17) (.t 16))])
         (.seq (.cond (.t 18) (.skip) (.exit 0))
          (.seq (.block 1 (.seq (.reg [o1 19 (.mv (.t 17)),
              o1 20 (.iaddr 1 (.t 15) (.t 17)),
              o1 21 (.load none (.t 20)),
              o1 6 (.mv (.t 19)),
              o1 7 (.mv (.t 21))])
             (.seq (.reg [o1 22 (.mv (.t 7)),
               o1 23 (.call (.f 57) [(.t 22)]),
               o1 8 (.mv (.t 23))])
              (.seq (.reg [o1 24 (.mv (.t 8)),
                o1 25 (.bin .gtr (.t 24) (cI 0))])
               (.cond (.t 25) (.reg [o1 26 (.mv (.t 5)),
                 o1 27 (.mv (.t 6)),
                 o1 28 (.mv (.t 0)),
                 o1 29 (.mv (.t 8)),
                 o1 30 (.mv (.t 0)),
                 o1 31 (.lenL (.t 30)),
                 o1 32 (.min (.t 29) (.t 31)),
                 o1 33 (.bin .sub (.t 32) (cI 1)),
                 o1 34 (.iaddr 1 (.t 28) (.t 33)),
                 o1 35 (.load none (.t 34)),
                 o1 36 (.iaddr 1 (.t 26) (.t 27)),
                 o0 (.store 1 (.t 36) (.t 35))]) (.skip))))))
           (.reg [o1 37 (.bin .add (.t 17) (cI 1)),
            o1 17 (.mv (.t 37))])))))))
     (.seq (.reg [o1 38 (.mv (.t 5)),
       o1 4 (.mv (.t 38))])
      (.ret)))))
theorem s54_ok : lookF Try.prog 54 = some (s54, 39, [.tmp 4]) := by kernel_rfl
theorem woven_ok (root form : List Str) (hr : 0 < root.length) (hf : form.length ≤ 1000000000) : Fn P 54 [sl root, sl form] (sl (weaveL root form)) := by
  (refine fn_look s54_ok (by simp) (by intro k; simp only [go_sem, Nat.reduceEqDiff, ↓reduceIte, reduceCtorEq, Nat.reduceAdd, Nat.reduceMul, Int.reduceToNat, List.reduceReplicate, Nat.reduceLeDiff, Nat.reduceLT, Int.reduceLT, Int.reduceLE, Int.reduceEq]) fun S hS => cwp_sound _ _ _ _ ?_; simp (maxSteps := 900000) (disch := omega) only [s54, go_sem, Nat.reduceEqDiff, ↓reduceIte, reduceCtorEq, Nat.reduceAdd, Nat.reduceMul, Int.reduceToNat, List.reduceReplicate, Nat.reduceLeDiff, Nat.reduceLT, Int.reduceLT, Int.reduceLE, Int.reduceEq])
  repeat' (first | with_reducible refine inw ?_ | simp (maxSteps := 900000) (disch := omega) only [go_sem, Nat.reduceEqDiff, ↓reduceIte, reduceCtorEq, Nat.reduceAdd, Nat.reduceMul, Int.reduceToNat, List.reduceReplicate, Nat.reduceLeDiff, Nat.reduceLT, Int.reduceLT, Int.reduceLE, Int.reduceEq] | with_reducible refine pickB_f ?_ | with_reducible refine giv_intro fun _h => ?_ | with_reducible refine alt_intro ?_ fun _h => ?_ | with_reducible refine pickD_nil ?_ | (with_reducible refine brc (fun _h => ?_) fun _h => ?_) <;> first | (exfalso; omega) | simp only [decide_eq_false _h] | simp only [(_h : (_ : Bool) = _)] | simp only [decide_eq_true _h] | skip)
  (refine loopC hS [0, 5, 15, 16] (by simp only [go_sem, Nat.reduceEqDiff, ↓reduceIte, reduceCtorEq, Nat.reduceAdd, Nat.reduceMul, Int.reduceToNat, List.reduceReplicate, Nat.reduceLeDiff, Nat.reduceLT, Int.reduceLT, Int.reduceLE, Int.reduceEq]; try rfl) (fun (⟨i, out⟩ : Nat × List Str) => [(17, intA i)]) (fun (⟨i, out⟩ : Nat × List Str) => [rowO 9 out]) (fun (⟨i, out⟩ : Nat × List Str) => i ≤ form.length ∧ out.length = form.length ∧ out = weaveL root (form.take i) ++ form.drop i) (fun (⟨i, out⟩ : Nat × List Str) => form.length - i) ((0, form)) ?_ (by intro s; first | (simp only [List.length_cons, List.length_nil]; done) | rfl | (rcases s with ⟨_, _⟩; rfl) | (rcases s with ⟨_, _, _⟩; rfl) | (rcases s with ⟨_, _, _, _⟩; rfl) | (rcases s with ⟨_, _, _, _, _⟩; rfl)) ?_)
  · repeat' (first | with_reducible refine inw ?_ | simp (maxSteps := 900000) (disch := omega) only [go_sem, Nat.reduceEqDiff, ↓reduceIte, reduceCtorEq, Nat.reduceAdd, Nat.reduceMul, Int.reduceToNat, List.reduceReplicate, Nat.reduceLeDiff, Nat.reduceLT, Int.reduceLT, Int.reduceLE, Int.reduceEq] | with_reducible refine pickB_f ?_ | with_reducible refine giv_intro fun _h => ?_ | with_reducible refine alt_intro ?_ fun _h => ?_ | with_reducible refine pickD_nil ?_ | (with_reducible refine brc (fun _h => ?_) fun _h => ?_) <;> first | (exfalso; omega) | simp only [decide_eq_false _h] | simp only [(_h : (_ : Bool) = _)] | simp only [decide_eq_true _h] | skip)
    simp [weaveL]
  rintro ⟨i, out⟩ ⟨hi, hl, ho⟩
  have hd := digit_range (nth form i)
  have step : i < form.length → weaveL root (form.take (i + 1)) = weaveL root (form.take i) ++ [weaveS root (nth form i)] := fun h => by
    rw [List.take_add_one, nth_get? h]; simp [weaveL]
  repeat' (first | with_reducible refine inw ?_ | simp (maxSteps := 900000) (disch := omega) only [go_sem, Nat.reduceEqDiff, ↓reduceIte, reduceCtorEq, Nat.reduceAdd, Nat.reduceMul, Int.reduceToNat, List.reduceReplicate, Nat.reduceLeDiff, Nat.reduceLT, Int.reduceLT, Int.reduceLE, Int.reduceEq] | (with_reducible apply call (asked_ok _)); (focus simp (maxSteps := 900000) (disch := omega) only [go_sem, Nat.reduceEqDiff, ↓reduceIte, reduceCtorEq, Nat.reduceAdd, Nat.reduceMul, Int.reduceToNat, List.reduceReplicate, Nat.reduceLeDiff, Nat.reduceLT, Int.reduceLT, Int.reduceLE, Int.reduceEq] <;> rfl) | with_reducible refine pickB_f ?_ | with_reducible refine giv_intro fun _h => ?_ | with_reducible refine alt_intro ?_ fun _h => ?_ | with_reducible refine pickD_nil ?_ | (with_reducible refine brc (fun _h => ?_) fun _h => ?_) <;> first | (exfalso; omega) | simp only [decide_eq_false _h] | simp only [(_h : (_ : Bool) = _)] | simp only [decide_eq_true _h] | skip)
  · refine ⟨(i + 1, _), ⟨by omega, by omega, ?_, ?_⟩, by omega, rfl⟩
    · simp [hl]; omega
    · subst ho
      rw [step (by omega), nth_drop (l := form) (i := i) (by omega), weaveS, if_neg (by omega)]
      have hl2 : (weaveL root (form.take i)).length = i := by simp [weaveL]; omega
      simp [List.take_append, List.drop_append, hl2]
  · refine ⟨(i + 1, _), ⟨by omega, by omega, hl, ?_⟩, by omega, rfl⟩
    rw [ho, step (by omega), nth_drop (l := form) (i := i) (by omega), weaveS, if_pos (by omega)]
    simp
  · rw [ho, drop_end (by omega), List.take_of_length_le (by omega), List.append_nil]

/-- What Weave answers: the error, the word. -/
def weaveE (root form : List Str) : Int := if wordsErr [root, form] ≠ 0 then wordsErr [root, form] else if root.length = 0 then 1 else 0
def weaveV (root form : List Str) : List Str := if weaveE root form = 0 then weaveL root form else []
theorem wordErr_len {l : List Str} (hl : wordErr l = 0) : l.length ≤ 60 := by
  unfold wordErr at hl
  split at hl
  · omega
  · rename_i hn; omega
theorem wordsErr_two {a b : List Str} : wordsErr [a, b] = 0 ↔ wordErr a = 0 ∧ wordErr b = 0 := by
  simp only [wordsErr]
  by_cases h : wordErr a = 0 <;> by_cases h2 : wordErr b = 0 <;> simp [h, h2]

/-- ablaut/harm.Weave: 2 parameters, 0 captured -/
def s18 : SC := .seq (.reg [o1 4 (.mv (.c (.slice none 0 0))),
   o1 5 (.mv (cI 0))])
  (.seq (.seq (.reg [o1 7 (.mv (.t 0)),
     o1 8 (.mv (.t 1)),
     o1 9 (.buildSl 22 1 2 [(.slice none 0 0)] [(0, 1, (.t 7)), (1, 1, (.t 8))]),
     o1 10 (.call (.f 53) [(.t 9)]),
     o1 6 (.mv (.t 10))])
    (.seq (.reg [o1 11 (.mv (.t 6)),
      o1 12 (.bin .neq (.t 11) (cI 0))])
     (.cond (.t 12) (.seq (.reg [o1 13 (.mv (.t 6)),
        o1 4 (.mv (.c (.slice none 0 0))),
        o1 5 (.mv (.t 13))])
       (.ret)) (.skip))))
   (.seq (.seq (.reg [o1 14 (.mv (.t 0)),
      o1 15 (.lenL (.t 14)),
      o1 16 (.bin .eql (.t 15) (cI 0))])
     (.cond (.t 16) (.seq (.reg [o1 4 (.mv (.c (.slice none 0 0))),
        o1 5 (.mv (cI 1))])
       (.ret)) (.skip)))
    (.seq (.reg [o1 17 (.mv (.t 0)),
      o1 18 (.mv (.t 1)),
      o1 19 (.call (.f 54) [(.t 17), (.t 18)]),
      o1 4 (.mv (.t 19)),
      o1 5 (.mv (cI 0))])
     (.ret))))
theorem s18_ok : lookF Try.prog 18 = some (s18, 20, [.tmp 4, .tmp 5]) := by kernel_rfl
theorem Weave_ok (root form : List Str) : Fn P 18 [sl root, sl form] (.tup [sl (weaveV root form), intA (weaveE root form)]) := by
  (refine fn_look s18_ok (by simp) (by intro k; simp only [go_sem, Nat.reduceEqDiff, ↓reduceIte, reduceCtorEq, Nat.reduceAdd, Nat.reduceMul, Int.reduceToNat, List.reduceReplicate, Nat.reduceLeDiff, Nat.reduceLT, Int.reduceLT, Int.reduceLE, Int.reduceEq]) fun S hS => cwp_sound _ _ _ _ ?_; simp (maxSteps := 900000) (disch := omega) only [s18, go_sem, Nat.reduceEqDiff, ↓reduceIte, reduceCtorEq, Nat.reduceAdd, Nat.reduceMul, Int.reduceToNat, List.reduceReplicate, Nat.reduceLeDiff, Nat.reduceLT, Int.reduceLT, Int.reduceLE, Int.reduceEq])
  repeat' (first | with_reducible refine inw ?_ | simp (maxSteps := 900000) (disch := omega) only [go_sem, Nat.reduceEqDiff, ↓reduceIte, reduceCtorEq, Nat.reduceAdd, Nat.reduceMul, Int.reduceToNat, List.reduceReplicate, Nat.reduceLeDiff, Nat.reduceLT, Int.reduceLT, Int.reduceLE, Int.reduceEq] | (with_reducible apply call_lend (words_ok [root, form])); (focus simp (maxSteps := 900000) (disch := omega) only [go_sem, Nat.reduceEqDiff, ↓reduceIte, reduceCtorEq, Nat.reduceAdd, Nat.reduceMul, Int.reduceToNat, List.reduceReplicate, Nat.reduceLeDiff, Nat.reduceLT, Int.reduceLT, Int.reduceLE, Int.reduceEq] <;> rfl); (focus rfl) | (with_reducible apply call (woven_ok root form (by omega) (by have := (wordErr_len (wordsErr_two.1 (by assumption)).2); omega))); (focus simp (maxSteps := 900000) (disch := omega) only [go_sem, Nat.reduceEqDiff, ↓reduceIte, reduceCtorEq, Nat.reduceAdd, Nat.reduceMul, Int.reduceToNat, List.reduceReplicate, Nat.reduceLeDiff, Nat.reduceLT, Int.reduceLT, Int.reduceLE, Int.reduceEq] <;> rfl) | with_reducible refine pickB_f ?_ | with_reducible refine giv_intro fun _h => ?_ | with_reducible refine alt_intro ?_ fun _h => ?_ | with_reducible refine pickD_nil ?_ | (with_reducible refine brc (fun _h => ?_) fun _h => ?_) <;> first | (exfalso; omega) | simp only [decide_eq_false _h] | simp only [(_h : (_ : Bool) = _)] | simp only [decide_eq_true _h] | skip)
  · have e : weaveE root form = wordsErr [root, form] := by rw [weaveE, if_pos _h]
    rw [weaveV, e, if_neg _h]; rfl
  · rename_i h1 h2
    have e : weaveE root form = 1 := by rw [weaveE, if_neg (by omega), if_pos (by omega)]
    rw [weaveV, e]; rfl
  · rename_i h1 h2
    have e : weaveE root form = 0 := by rw [weaveE, if_neg (by omega), if_neg (by omega)]
    rw [weaveV, e]; rfl

/-- ablaut/ablautlaw13.known: 0 parameters, 0 captured -/
def s17 : SC := .seq (.reg [o1 0 (.mv (cB false))])
  (.seq (.reg [o1 4 (.buildSl 9 1 3 [(.string ⟨#[]⟩)] [(0, 1, (.c (.string ⟨#[107]⟩))), (1, 1, (.c (.string ⟨#[116]⟩))), (2, 1, (.c (.string ⟨#[98]⟩)))]),
    o1 5 (.buildSl 9 1 5 [(.string ⟨#[]⟩)] [(0, 1, (.c (.string ⟨#[49]⟩))), (1, 1, (.c (.string ⟨#[97]⟩))), (2, 1, (.c (.string ⟨#[50]⟩))), (3, 1, (.c (.string ⟨#[97]⟩))), (4, 1, (.c (.string ⟨#[51]⟩)))]),
    o1 6 (.call (.f 18) [(.t 4), (.t 5)]),
    o1 3 (.mv (.t 6)),
    o1 7 (.ext (.t 3) 0),
    o1 8 (.ext (.t 3) 1),
    o1 1 (.mv (.t 7)),
    o1 2 (.mv (.t 8))])
   (.seq (.reg [o1 9 (.mv (.t 2)),
     o1 10 (.bin .eql (.t 9) (cI 0)),
     o1 11 (.mv (.t 10)),
     oT 12 (.mv (.t 1)) 11,
     oT 13 (.lenL (.t 12)) 11,
     oT 14 (.bin .eql (.t 13) (cI 5)) 11,
     o1 15 (.pick (.t 11) (.t 14) (cB false)),
     o1 16 (.mv (.t 15)),
     oT 17 (.mv (.t 1)) 16,
     oT 18 (.iaddr 1 (.t 17) (cI 0)) 16,
     oT 19 (.load none (.t 18)) 16,
     oT 20 (.bin .eql (.t 19) (.c (.string ⟨#[107]⟩))) 16,
     o1 21 (.pick (.t 16) (.t 20) (cB false)),
     o1 22 (.mv (.t 21)),
     oT 23 (.mv (.t 1)) 22,
     oT 24 (.iaddr 1 (.t 23) (cI 2)) 22,
     oT 25 (.load none (.t 24)) 22,
     oT 26 (.bin .eql (.t 25) (.c (.string ⟨#[116]⟩))) 22,
     o1 27 (.pick (.t 22) (.t 26) (cB false)),
     o1 28 (.mv (.t 27)),
     oT 29 (.mv (.t 1)) 28,
     oT 30 (.iaddr 1 (.t 29) (cI 3)) 28,
     oT 31 (.load none (.t 30)) 28,
     oT 32 (.bin .eql (.t 31) (.c (.string ⟨#[97]⟩))) 28,
     o1 33 (.pick (.t 28) (.t 32) (cB false)),
     o1 0 (.mv (.t 33))])
    (.ret)))
theorem s17_ok : lookF Try.prog 17 = some (s17, 34, [.tmp 0]) := by kernel_rfl
theorem known_ok : Fn P 17 [] (boolA true) := by
  have h : weaveV [⟨#[107]⟩, ⟨#[116]⟩, ⟨#[98]⟩] [⟨#[49]⟩, ⟨#[97]⟩, ⟨#[50]⟩, ⟨#[97]⟩, ⟨#[51]⟩] = [⟨#[107]⟩, ⟨#[97]⟩, ⟨#[116]⟩, ⟨#[97]⟩, ⟨#[98]⟩] := by decide
  have h2 : weaveE [⟨#[107]⟩, ⟨#[116]⟩, ⟨#[98]⟩] [⟨#[49]⟩, ⟨#[97]⟩, ⟨#[50]⟩, ⟨#[97]⟩, ⟨#[51]⟩] = 0 := by decide
  (refine fn_look s17_ok (by simp) (by intro k; simp only [go_sem, Nat.reduceEqDiff, ↓reduceIte, reduceCtorEq, Nat.reduceAdd, Nat.reduceMul, Int.reduceToNat, List.reduceReplicate, Nat.reduceLeDiff, Nat.reduceLT, Int.reduceLT, Int.reduceLE, Int.reduceEq]) fun S hS => cwp_sound _ _ _ _ ?_; simp (maxSteps := 900000) (disch := omega) only [s17, go_sem, Nat.reduceEqDiff, ↓reduceIte, reduceCtorEq, Nat.reduceAdd, Nat.reduceMul, Int.reduceToNat, List.reduceReplicate, Nat.reduceLeDiff, Nat.reduceLT, Int.reduceLT, Int.reduceLE, Int.reduceEq])
  repeat' (first | with_reducible refine inw ?_ | simp (maxSteps := 900000) (disch := omega) only [go_sem, Nat.reduceEqDiff, ↓reduceIte, reduceCtorEq, Nat.reduceAdd, Nat.reduceMul, Int.reduceToNat, List.reduceReplicate, Nat.reduceLeDiff, Nat.reduceLT, Int.reduceLT, Int.reduceLE, Int.reduceEq, h, h2] | (with_reducible apply call_give (Weave_ok [⟨#[107]⟩, ⟨#[116]⟩, ⟨#[98]⟩] [⟨#[49]⟩, ⟨#[97]⟩, ⟨#[50]⟩, ⟨#[97]⟩, ⟨#[51]⟩])); (focus simp (maxSteps := 900000) (disch := omega) only [go_sem, Nat.reduceEqDiff, ↓reduceIte, reduceCtorEq, Nat.reduceAdd, Nat.reduceMul, Int.reduceToNat, List.reduceReplicate, Nat.reduceLeDiff, Nat.reduceLT, Int.reduceLT, Int.reduceLE, Int.reduceEq, h, h2] <;> rfl) | with_reducible refine pickB_f ?_ | with_reducible refine giv_intro fun _h => ?_ | with_reducible refine alt_intro ?_ fun _h => ?_ | with_reducible refine pickD_nil ?_ | (with_reducible refine brc (fun _h => ?_) fun _h => ?_) <;> first | (exfalso; omega) | simp only [decide_eq_false _h] | simp only [(_h : (_ : Bool) = _)] | simp only [decide_eq_true _h] | skip)

/-! ### the guard -/
theorem int_bel (r : AV) (h : ∃ n : Int, r = intA n) (k : Nat) : r.bel k := by obtain ⟨n, rfl⟩ := h; simp only [go_sem, Nat.reduceEqDiff, ↓reduceIte, reduceCtorEq, Nat.reduceAdd, Nat.reduceMul, Int.reduceToNat, List.reduceReplicate, Nat.reduceLeDiff, Nat.reduceLT, Int.reduceLT, Int.reduceLE, Int.reduceEq]
/-- ablaut/ablautlaw13.bytes: 1 parameters, 0 captured -/
def s16 : SC := .seq (.reg [o1 2 (.mv (cI 0))])
  (.seq (.reg [o1 3 (.mv (cI 0))])
   (.seq (.seq (.reg [o1 4 (.mv (cI 0))])
     (.block 0 (.loop (.seq (.seq (.reg [o1 6 (.mv (.t 4)),
          o1 7 (.mv (.t 0)),
          o1 8 (.lenL (.t 7)),
          o1 9 (.bin .lss (.t 6) (.t 8))])
         (.cond (.t 9) (.skip) (.exit 0)))
        (.seq (.block 1 (.seq (.reg [o1 12 (.mv (.t 3)),
            o1 13 (.mv (.t 0)),
            o1 14 (.mv (.t 4)),
            o1 15 (.iaddr 1 (.t 13) (.t 14)),
            o1 16 (.load none (.t 15)),
            o1 17 (.lenL (.t 16)),
            o1 18 (.bin .add (cI 1) (.t 17)),
            o1 19 (.bin .add (.t 12) (.t 18)),
            o1 3 (.mv (.t 19))])
           (.seq (.reg [o1 5 (.mv (cI 0))])
            (.block 2 (.loop (.seq (.seq (.reg [o1 20 (.mv (.t 5)),
                 o1 21 (.mv (.t 0)),
                 o1 22 (.mv (.t 4)),
                 o1 23 (.iaddr 1 (.t 21) (.t 22)),
                 o1 24 (.load none (.t 23)),
                 o1 25 (.lenL (.t 24)),
                 o1 26 (.bin .lss (.t 20) (.t 25)),
                 o1 27 (.mv (.t 26)),
                 oT 28 (.mv (.t 3)) 27,
                 oT 29 (.bin .leq (.t 28) (cI 32000)) 27,
                 o1 30 (.pick (.t 27) (.t 29) (cB false))])
                (.cond (.t 30) (.skip) (.exit 2)))
               (.seq (.block 3 (.reg [o1 33 (.mv (.t 3)),
                  o1 34 (.mv (.t 0)),
                  o1 35 (.mv (.t 4)),
                  o1 36 (.iaddr 1 (.t 34) (.t 35)),
                  o1 37 (.load none (.t 36)),
                  o1 38 (.mv (.t 5)),
                  o1 39 (.iaddr 1 (.t 37) (.t 38)),
                  o1 40 (.load none (.t 39)),
                  o1 41 (.lenS (.t 40)),
                  o1 42 (.bin .add (.t 33) (.t 41)),
                  o1 3 (.mv (.t 42))]))
                (.reg [o1 31 (.mv (.t 5)),
                 o1 32 (.bin .add (.t 31) (cI 1)),
                 o1 5 (.mv (.t 32))]))))))))
         (.reg [o1 10 (.mv (.t 4)),
          o1 11 (.bin .add (.t 10) (cI 1)),
          o1 4 (.mv (.t 11))]))))))
    (.seq (.reg [o1 43 (.mv (.t 3)),
      o1 2 (.mv (.t 43))])
     (.ret))))
theorem s16_ok : lookF Try.prog 16 = some (s16, 44, [.tmp 2]) := by kernel_rfl
theorem bytes_ok (l : List (List Str)) (hl : l.length ≤ 1000) : FnR P 16 [sl l] fun r => ∃ n : Int, r = intA n := by
  (refine fnR_look s16_ok (by simp) (int_bel) fun S hS => cwp_sound _ _ _ _ ?_; simp (maxSteps := 900000) (disch := omega) only [s16, go_sem, Nat.reduceEqDiff, ↓reduceIte, reduceCtorEq, Nat.reduceAdd, Nat.reduceMul, Int.reduceToNat, List.reduceReplicate, Nat.reduceLeDiff, Nat.reduceLT, Int.reduceLT, Int.reduceLE, Int.reduceEq])
  (refine loopC hS [0] (by simp only [go_sem, Nat.reduceEqDiff, ↓reduceIte, reduceCtorEq, Nat.reduceAdd, Nat.reduceMul, Int.reduceToNat, List.reduceReplicate, Nat.reduceLeDiff, Nat.reduceLT, Int.reduceLT, Int.reduceLE, Int.reduceEq]; try rfl) (fun (⟨i, n⟩ : Nat × Int) => [(3, intA n), (4, intA i)]) (fun (⟨i, n⟩ : Nat × Int) => []) (fun (⟨i, n⟩ : Nat × Int) => i ≤ l.length) (fun (⟨i, n⟩ : Nat × Int) => l.length - i) ((0, 0)) ?_ (by intro s; first | (simp only [List.length_cons, List.length_nil]; done) | rfl | (rcases s with ⟨_, _⟩; rfl) | (rcases s with ⟨_, _, _⟩; rfl) | (rcases s with ⟨_, _, _, _⟩; rfl) | (rcases s with ⟨_, _, _, _, _⟩; rfl)) ?_)
  · simp (maxSteps := 900000) (disch := omega) only [go_sem, Nat.reduceEqDiff, ↓reduceIte, reduceCtorEq, Nat.reduceAdd, Nat.reduceMul, Int.reduceToNat, List.reduceReplicate, Nat.reduceLeDiff, Nat.reduceLT, Int.reduceLT, Int.reduceLE, Int.reduceEq]; simp
  rintro ⟨i, n⟩ hi
  replace hi : i ≤ l.length := hi
  repeat' (first | with_reducible refine inw ?_ | simp (maxSteps := 900000) (disch := omega) only [go_sem, Nat.reduceEqDiff, ↓reduceIte, reduceCtorEq, Nat.reduceAdd, Nat.reduceMul, Int.reduceToNat, List.reduceReplicate, Nat.reduceLeDiff, Nat.reduceLT, Int.reduceLT, Int.reduceLE, Int.reduceEq] | with_reducible refine pickB_f ?_ | with_reducible refine giv_intro fun _h => ?_ | with_reducible refine alt_intro ?_ fun _h => ?_ | with_reducible refine pickD_nil ?_ | (with_reducible refine brc (fun _h => ?_) fun _h => ?_) <;> first | (exfalso; omega) | simp only [decide_eq_false _h] | simp only [(_h : (_ : Bool) = _)] | simp only [decide_eq_true _h] | skip)
  · (refine loopC hS [0, 4] (by simp only [go_sem, Nat.reduceEqDiff, ↓reduceIte, reduceCtorEq, Nat.reduceAdd, Nat.reduceMul, Int.reduceToNat, List.reduceReplicate, Nat.reduceLeDiff, Nat.reduceLT, Int.reduceLT, Int.reduceLE, Int.reduceEq]; try rfl) (fun (⟨k, n⟩ : Nat × Int) => [(3, intA n), (5, intA k)]) (fun (⟨k, n⟩ : Nat × Int) => []) (fun (⟨k, n⟩ : Nat × Int) => k ≤ (nth l i).length) (fun (⟨k, n⟩ : Nat × Int) => (nth l i).length - k) ((0, IntKind.i64.wrap (n + IntKind.i64.wrap (1 + (nth l i).length)))) ?_ (by intro s; first | (simp only [List.length_cons, List.length_nil]; done) | rfl | (rcases s with ⟨_, _⟩; rfl) | (rcases s with ⟨_, _, _⟩; rfl) | (rcases s with ⟨_, _, _, _⟩; rfl) | (rcases s with ⟨_, _, _, _, _⟩; rfl)) ?_)
    · simp (maxSteps := 900000) (disch := omega) only [go_sem, Nat.reduceEqDiff, ↓reduceIte, reduceCtorEq, Nat.reduceAdd, Nat.reduceMul, Int.reduceToNat, List.reduceReplicate, Nat.reduceLeDiff, Nat.reduceLT, Int.reduceLT, Int.reduceLE, Int.reduceEq]; simp
    rintro ⟨k, n⟩ hk
    replace hk : k ≤ (nth l i).length := hk
    repeat' (first | with_reducible refine inw ?_ | simp (maxSteps := 900000) (disch := omega) only [go_sem, Nat.reduceEqDiff, ↓reduceIte, reduceCtorEq, Nat.reduceAdd, Nat.reduceMul, Int.reduceToNat, List.reduceReplicate, Nat.reduceLeDiff, Nat.reduceLT, Int.reduceLT, Int.reduceLE, Int.reduceEq] | with_reducible refine pickB_f ?_ | with_reducible refine giv_intro fun _h => ?_ | with_reducible refine alt_intro ?_ fun _h => ?_ | with_reducible refine pickD_nil ?_ | (with_reducible refine brc (fun _h => ?_) fun _h => ?_) <;> first | (exfalso; omega) | simp only [decide_eq_false _h] | simp only [(_h : (_ : Bool) = _)] | simp only [decide_eq_true _h] | skip)
    · exact ⟨(k + 1, _), ⟨by omega, by omega⟩, rfl, by omega⟩
    · exact ⟨(i + 1, _), ⟨by omega, by omega⟩, rfl, by omega⟩
    · exact ⟨(i + 1, _), ⟨by omega, by omega⟩, rfl, by omega⟩
  · exact ⟨_, rfl⟩

theorem findIdx_any' {l : List Str} {v : Str} : decide (0 ≤ (match l.findIdx? (fun x => decide (v = x)) with | some i => (i : Int) | none => -1)) = l.any (fun x => decide (v = x)) := findIdx_any
/-- slices.Index[[]string,string]: 2 parameters, 0 captured -/
def s111 : SC := .seq (.reg [o1 4 (.mv (cI 0))])
  (.seq (.seq (.reg [o1 6 (.mv (.t 0)),
     o1 7 (.lenL (.t 6)),
     o1 8 (.mv (cI 0))])
    (.block 0 (.loop (.seq (.reg [o1 9 (.bin .lss (.t 8) (.t 7))])
       (.seq (.cond (.t 9) (.skip) (.exit 0))
        (.seq (.block 1 (.seq (.reg [o1 10 (.mv (.t 8)),
            o1 5 (.mv (.t 10))])
           (.seq (.reg [o1 11 (.mv (.t 1)),
             o1 12 (.mv (.t 0)),
             o1 13 (.mv (.t 5)),
             o1 14 (.iaddr 1 (.t 12) (.t 13)),
             o1 15 (.load none (.t 14)),
             o1 16 (.bin .eql (.t 11) (.t 15))])
            (.cond (.t 16) (.seq (.reg [o1 17 (.mv (.t 5)),
               o1 4 (.mv (.t 17))])
              (.ret)) (.skip)))))
         (.reg [o1 18 (.bin .add (.t 8) (cI 1)),
          o1 8 (.mv (.t 18))])))))))
   (.seq (.reg [o1 4 (.mv (cI (-1)))])
    (.ret)))
theorem s111_ok : lookF Try.prog 111 = some (s111, 19, [.tmp 4]) := by kernel_rfl
theorem Index_ok (l : List Str) (v : Str) :
    Fn P 111 [sl l, strA v] (intA (match l.findIdx? (fun x => decide (v = x)) with | some i => (i : Int) | none => -1)) := by
  (refine fn_look s111_ok (by simp) (by intro k; simp only [go_sem, Nat.reduceEqDiff, ↓reduceIte, reduceCtorEq, Nat.reduceAdd, Nat.reduceMul, Int.reduceToNat, List.reduceReplicate, Nat.reduceLeDiff, Nat.reduceLT, Int.reduceLT, Int.reduceLE, Int.reduceEq]) fun S hS => cwp_sound _ _ _ _ ?_; simp (maxSteps := 900000) (disch := omega) only [s111, go_sem, Nat.reduceEqDiff, ↓reduceIte, reduceCtorEq, Nat.reduceAdd, Nat.reduceMul, Int.reduceToNat, List.reduceReplicate, Nat.reduceLeDiff, Nat.reduceLT, Int.reduceLT, Int.reduceLE, Int.reduceEq])
  repeat' (first | with_reducible refine inw ?_ | simp (maxSteps := 900000) (disch := omega) only [go_sem, Nat.reduceEqDiff, ↓reduceIte, reduceCtorEq, Nat.reduceAdd, Nat.reduceMul, Int.reduceToNat, List.reduceReplicate, Nat.reduceLeDiff, Nat.reduceLT, Int.reduceLT, Int.reduceLE, Int.reduceEq] | with_reducible refine pickB_f ?_ | with_reducible refine giv_intro fun _h => ?_ | with_reducible refine alt_intro ?_ fun _h => ?_ | with_reducible refine pickD_nil ?_ | (with_reducible refine brc (fun _h => ?_) fun _h => ?_) <;> first | (exfalso; omega) | simp only [decide_eq_false _h] | simp only [(_h : (_ : Bool) = _)] | simp only [decide_eq_true _h] | skip)
  (refine loopC hS [0, 1, 7] (by simp only [go_sem, Nat.reduceEqDiff, ↓reduceIte, reduceCtorEq, Nat.reduceAdd, Nat.reduceMul, Int.reduceToNat, List.reduceReplicate, Nat.reduceLeDiff, Nat.reduceLT, Int.reduceLT, Int.reduceLE, Int.reduceEq]; try rfl) (fun (i : Nat) => [(8, intA i)]) (fun (i : Nat) => []) (fun (i : Nat) => i ≤ l.length ∧ l.findIdx? (fun x => decide (v = x)) = ((l.drop i).findIdx? (fun x => decide (v = x))).map (· + i)) (fun (i : Nat) => l.length - i) (0) ?_ (by intro s; first | (simp only [List.length_cons, List.length_nil]; done) | rfl | (rcases s with ⟨_, _⟩; rfl) | (rcases s with ⟨_, _, _⟩; rfl) | (rcases s with ⟨_, _, _, _⟩; rfl) | (rcases s with ⟨_, _, _, _, _⟩; rfl)) ?_)
  · simp (maxSteps := 900000) (disch := omega) only [go_sem, Nat.reduceEqDiff, ↓reduceIte, reduceCtorEq, Nat.reduceAdd, Nat.reduceMul, Int.reduceToNat, List.reduceReplicate, Nat.reduceLeDiff, Nat.reduceLT, Int.reduceLT, Int.reduceLE, Int.reduceEq]; simp
  rintro i ⟨hi, hI⟩
  repeat' (first | with_reducible refine inw ?_ | simp (maxSteps := 900000) (disch := omega) only [go_sem, Nat.reduceEqDiff, ↓reduceIte, reduceCtorEq, Nat.reduceAdd, Nat.reduceMul, Int.reduceToNat, List.reduceReplicate, Nat.reduceLeDiff, Nat.reduceLT, Int.reduceLT, Int.reduceLE, Int.reduceEq] | with_reducible refine pickB_f ?_ | with_reducible refine giv_intro fun _h => ?_ | with_reducible refine alt_intro ?_ fun _h => ?_ | with_reducible refine pickD_nil ?_ | (with_reducible refine brc (fun _h => ?_) fun _h => ?_) <;> first | (exfalso; omega) | simp only [decide_eq_false _h] | simp only [(_h : (_ : Bool) = _)] | simp only [decide_eq_true _h] | skip)
  · rw [hI, nth_drop (by assumption)]
    simp_all [List.findIdx?_cons]
  · refine ⟨i + 1, ⟨by omega, by omega, ?_⟩, by omega⟩
    rw [hI, nth_drop (by assumption), List.findIdx?_cons]
    simp_all [Function.comp_def, Nat.add_comm, Nat.add_left_comm]
  · rw [hI, drop_end (by omega)]; rfl
/-- slices.Contains[[]string,string]: 2 parameters, 0 captured -/
def s58 : SC := .seq (.reg [o1 4 (.mv (cB false))])
  (.seq (.reg [o1 5 (.mv (.t 0)),
    o1 6 (.mv (.t 1)),
    o1 7 (.call (.f 111) [(.t 5), (.t 6)]),
    o1 8 (.bin .geq (.t 7) (cI 0)),
    o1 4 (.mv (.t 8))])
   (.ret))
theorem s58_ok : lookF Try.prog 58 = some (s58, 9, [.tmp 4]) := by kernel_rfl
theorem Contains_ok (l : List Str) (v : Str) : Fn P 58 [sl l, strA v] (boolA (l.any (fun x => decide (v = x)))) := by
  (refine fn_look s58_ok (by simp) (by intro k; simp only [go_sem, Nat.reduceEqDiff, ↓reduceIte, reduceCtorEq, Nat.reduceAdd, Nat.reduceMul, Int.reduceToNat, List.reduceReplicate, Nat.reduceLeDiff, Nat.reduceLT, Int.reduceLT, Int.reduceLE, Int.reduceEq]) fun S hS => cwp_sound _ _ _ _ ?_; simp (maxSteps := 900000) (disch := omega) only [s58, go_sem, Nat.reduceEqDiff, ↓reduceIte, reduceCtorEq, Nat.reduceAdd, Nat.reduceMul, Int.reduceToNat, List.reduceReplicate, Nat.reduceLeDiff, Nat.reduceLT, Int.reduceLT, Int.reduceLE, Int.reduceEq])
  repeat' (first | with_reducible refine inw ?_ | simp (maxSteps := 900000) (disch := omega) only [go_sem, Nat.reduceEqDiff, ↓reduceIte, reduceCtorEq, Nat.reduceAdd, Nat.reduceMul, Int.reduceToNat, List.reduceReplicate, Nat.reduceLeDiff, Nat.reduceLT, Int.reduceLT, Int.reduceLE, Int.reduceEq] | (with_reducible apply call (Index_ok l v)); (focus simp (maxSteps := 900000) (disch := omega) only [go_sem, Nat.reduceEqDiff, ↓reduceIte, reduceCtorEq, Nat.reduceAdd, Nat.reduceMul, Int.reduceToNat, List.reduceReplicate, Nat.reduceLeDiff, Nat.reduceLT, Int.reduceLT, Int.reduceLE, Int.reduceEq] <;> rfl) | with_reducible refine pickB_f ?_ | with_reducible refine giv_intro fun _h => ?_ | with_reducible refine alt_intro ?_ fun _h => ?_ | with_reducible refine pickD_nil ?_ | (with_reducible refine brc (fun _h => ?_) fun _h => ?_) <;> first | (exfalso; omega) | simp only [decide_eq_false _h] | simp only [(_h : (_ : Bool) = _)] | simp only [decide_eq_true _h] | skip)
  exact findIdx_any'

/-- ablaut/ablautlaw13.HarmWeaves: 3 parameters, 0 captured -/
def s3 : SC := .seq (.reg [o1 6 (.mv (cB false))])
  (.seq (.seq (.reg [o1 15 (.mv (.t 0)),
     o1 16 (.mv (.t 1)),
     o1 17 (.mv (.t 2)),
     o1 18 (.buildSl 22 1 3 [(.slice none 0 0)] [(0, 1, (.t 15)), (1, 1, (.t 16)), (2, 1, (.t 17))]),
     o1 19 (.call (.f 16) [(.t 18)]),
     o1 20 (.bin .gtr (.t 19) (cI 32000))])
    (.cond (.t 20) (.seq (.reg [o1 21 (.call (.f 17) []),
       o1 6 (.mv (.t 21))])
      (.ret)) (.skip)))
   (.seq (.reg [o1 23 (.mv (.t 0)),
     o1 24 (.mv (.t 1)),
     o1 25 (.call (.f 18) [(.t 23), (.t 24)]),
     o1 22 (.mv (.t 25)),
     o1 26 (.ext (.t 22) 0),
     o1 27 (.ext (.t 22) 1),
     o1 7 (.mv (.t 26)),
     o1 8 (.mv (.t 27))])
    (.seq (.reg [o1 29 (.mv (.t 0)),
      o1 30 (.mv (.t 1)),
      o1 31 (.call (.f 19) [(.t 29), (.t 30)]),
      o1 28 (.mv (.t 31)),
      o1 32 (.ext (.t 28) 0),
      o1 33 (.ext (.t 28) 1),
      o1 9 (.mv (.t 32)),
      o1 10 (.mv (.t 33))])
     (.seq (.reg [o1 35 (.mv (.t 2)),
       o1 36 (.mv (.t 1)),
       o1 37 (.call (.f 20) [(.t 35), (.t 36)]),
       o1 34 (.mv (.t 37)),
       o1 38 (.ext (.t 34) 0),
       o1 39 (.ext (.t 34) 1),
       o1 11 (.mv (.t 38)),
       o1 12 (.mv (.t 39))])
      (.seq (.reg [o1 41 (.mv (.t 2)),
        o1 42 (.mv (.t 1)),
        o1 43 (.call (.f 21) [(.t 41), (.t 42)]),
        o1 40 (.mv (.t 43)),
        o1 44 (.ext (.t 40) 0),
        o1 45 (.ext (.t 40) 1),
        o1 13 (.mv (.t 44)),
        o1 14 (.mv (.t 45))])
       (.seq (.reg [o1 46 (.mv (.t 7)),
         o1 47 (.mv (.t 9)),
         o1 48 (.call (.f 22) [(.t 46), (.t 47)]),
         o1 49 (.mv (.t 48)),
         oT 50 (.mv (.t 8)) 49,
         oT 51 (.mv (.t 10)) 49,
         oT 52 (.bin .eql (.t 50) (.t 51)) 49,
         o1 53 (.pick (.t 49) (.t 52) (cB false)),
         o1 54 (.mv (.t 53)),
         oT 55 (.mv (.t 11)) 54,
         oT 56 (.mv (.t 13)) 54,
         oT 57 (.call (.f 23) [(.t 55), (.t 56)]) 54,
         o1 58 (.pick (.t 54) (.t 57) (cB false)),
         o1 59 (.mv (.t 58)),
         oT 60 (.mv (.t 12)) 59,
         oT 61 (.mv (.t 14)) 59,
         oT 62 (.bin .eql (.t 60) (.t 61)) 59,
         o1 63 (.pick (.t 59) (.t 62) (cB false)),
         o1 64 (.mv (.t 63)),
         oT 65 (.call (.f 17) []) 64,
         o1 66 (.pick (.t 64) (.t 65) (cB false)),
         o1 6 (.mv (.t 66))])
        (.ret)))))))
end Go.Proofs.Ytpfoflhhbkjngaa.Ev

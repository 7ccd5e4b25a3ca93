/- Levels, breaks and texts: the law. -/
import Derived.Test.YtfihpbeihlpfcaaZFnOn
set_option linter.unusedVariables false
set_option linter.unusedSimpArgs false
namespace Go.Proofs.Ytfihpbeihlpfcaa.Ev
open Go Go.Proofs

abbrev exA : Str := ⟨#[97]⟩
abbrev exB : Str := ⟨#[98]⟩
abbrev exC : Str := ⟨#[99]⟩
def exH : Book := (1, 1, [([exA, exB], [0, 1, 0]), ([exA, exB, exC], [0, 2, 0, 0])], [], [])
theorem ex_1 : bksR exH [exA, exB] = ([1], 0) := by kernel_rfl
theorem ex_2 : bksR exH [exA, exB, exC] = ([], 0) := by kernel_rfl
/-- ablaut/ablautlaw24.example: 0 parameters, 0 captured -/
def s34 : SC := .seq (.reg [o1 0 (.alloc 37 5 [(.int .i64 0), (.int .i64 0), (.slice none 0 0), (.slice none 0 0), (.slice none 0 0)])])
  (.seq (.reg [o1 1 (.buildSl 9 1 2 [(.string ⟨#[]⟩)] [(0, 1, (.c (.string ⟨#[97]⟩))), (1, 1, (.c (.string ⟨#[98]⟩)))]),
    o1 2 (.buildSl 3 1 3 [(.int .i64 0)] [(0, 1, (cI 0)), (1, 1, (cI 1)), (2, 1, (cI 0))]),
    o1 3 (.build [(.slice none 0 0), (.slice none 0 0)] [(0, 1, (.t 1)), (1, 1, (.t 2))]),
    o1 4 (.buildSl 9 1 3 [(.string ⟨#[]⟩)] [(0, 1, (.c (.string ⟨#[97]⟩))), (1, 1, (.c (.string ⟨#[98]⟩))), (2, 1, (.c (.string ⟨#[99]⟩)))]),
    o1 5 (.buildSl 3 1 4 [(.int .i64 0)] [(0, 1, (cI 0)), (1, 1, (cI 2)), (2, 1, (cI 0)), (3, 1, (cI 0))]),
    o1 6 (.build [(.slice none 0 0), (.slice none 0 0)] [(0, 1, (.t 4)), (1, 1, (.t 5))]),
    o1 7 (.buildSl 33 2 2 [(.slice none 0 0), (.slice none 0 0)] [(0, 2, (.t 3)), (2, 2, (.t 6))]),
    o1 8 (.build [(.int .i64 0), (.int .i64 0), (.slice none 0 0), (.slice none 0 0), (.slice none 0 0)] [(0, 1, (cI 1)), (1, 1, (cI 1)), (2, 1, (.t 7))]),
    o0 (.store 5 (.t 0) (.t 8))])
   (.ret))
theorem s34_ok : lookF Try.prog 34 = some (s34, 9, [.cell 0 (some 5)]) := by kernel_rfl
theorem example_ok : Fn P 34 [] (bkA exH) := by
  have z2 : zcells [Value.string ⟨#[]⟩] 2 = [strA ⟨#[]⟩, strA ⟨#[]⟩] := rfl
  have z3 : zcells [Value.string ⟨#[]⟩] 3 = [strA ⟨#[]⟩, strA ⟨#[]⟩, strA ⟨#[]⟩] := rfl
  have y3 : zcells [Value.int .i64 0] 3 = [intA 0, intA 0, intA 0] := rfl
  have y4 : zcells [Value.int .i64 0] 4 = [intA 0, intA 0, intA 0, intA 0] := rfl
  have x4 : zcells [Value.slice none 0 0, Value.slice none 0 0] 4 = [nilA, nilA, nilA, nilA] := rfl
  (refine fn_look s34_ok (by simp) (by intro k; simp only [go_sem, Nat.reduceEqDiff, ↓reduceIte, reduceCtorEq, Nat.reduceAdd, Nat.reduceMul, Int.reduceToNat, List.reduceReplicate, Nat.reduceLeDiff, Nat.reduceLT, Int.reduceLT, Int.reduceLE, Int.reduceEq]) fun S hS => cwp_sound _ _ _ _ ?_; simp (maxSteps := 900000) (disch := omega) only [s34, go_sem, Nat.reduceEqDiff, ↓reduceIte, reduceCtorEq, Nat.reduceAdd, Nat.reduceMul, Int.reduceToNat, List.reduceReplicate, Nat.reduceLeDiff, Nat.reduceLT, Int.reduceLT, Int.reduceLE, Int.reduceEq])
  repeat' (first | with_reducible refine inw ?_ | simp (maxSteps := 900000) (disch := omega) only [go_sem, Nat.reduceEqDiff, ↓reduceIte, reduceCtorEq, Nat.reduceAdd, Nat.reduceMul, Int.reduceToNat, List.reduceReplicate, Nat.reduceLeDiff, Nat.reduceLT, Int.reduceLT, Int.reduceLE, Int.reduceEq, z2, z3, y3, y4, x4] | with_reducible refine pickB_f ?_ | with_reducible refine giv_intro fun _h => ?_ | with_reducible refine alt_intro ?_ fun _h => ?_ | with_reducible refine pickD_nil ?_ | (with_reducible refine brc (fun _h => ?_) fun _h => ?_) <;> first | (exfalso; omega) | simp only [decide_eq_false _h] | simp only [(_h : (_ : Bool) = _)] | simp only [decide_eq_true _h] | skip)
  all_goals rfl
/-- ablaut/ablautlaw24.known: 0 parameters, 0 captured -/
def s11 : SC := .seq (.reg [o1 0 (.mv (cB false))])
  (.seq (.reg [o1 6 (.call (.f 34) []),
    o1 7 (.buildSl 9 1 2 [(.string ⟨#[]⟩)] [(0, 1, (.c (.string ⟨#[97]⟩))), (1, 1, (.c (.string ⟨#[98]⟩)))]),
    o1 8 (.call (.f 12) [(.t 6), (.t 7)]),
    o1 5 (.mv (.t 8)),
    o1 9 (.ext (.t 5) 0),
    o1 10 (.ext (.t 5) 1),
    o1 1 (.mv (.t 9)),
    o1 2 (.mv (.t 10))])
   (.seq (.reg [o1 12 (.call (.f 34) []),
     o1 13 (.buildSl 9 1 3 [(.string ⟨#[]⟩)] [(0, 1, (.c (.string ⟨#[97]⟩))), (1, 1, (.c (.string ⟨#[98]⟩))), (2, 1, (.c (.string ⟨#[99]⟩)))]),
     o1 14 (.call (.f 12) [(.t 12), (.t 13)]),
     o1 11 (.mv (.t 14)),
     o1 15 (.ext (.t 11) 0),
     o1 16 (.ext (.t 11) 1),
     o1 3 (.mv (.t 15)),
     o1 4 (.mv (.t 16))])
    (.seq (.reg [o1 17 (.mv (.t 1)),
      o1 18 (.lenL (.t 17)),
      o1 19 (.bin .eql (.t 18) (cI 1)),
      o1 20 (.mv (.t 19)),
      oT 21 (.mv (.t 1)) 20,
      oT 22 (.iaddr 1 (.t 21) (cI 0)) 20,
      oT 23 (.load none (.t 22)) 20,
      oT 24 (.bin .eql (.t 23) (cI 1)) 20,
      o1 25 (.pick (.t 20) (.t 24) (cB false)),
      o1 26 (.mv (.t 25)),
      oT 27 (.mv (.t 2)) 26,
      oT 28 (.bin .eql (.t 27) (cI 0)) 26,
      o1 29 (.pick (.t 26) (.t 28) (cB false)),
      o1 30 (.mv (.t 29)),
      oT 31 (.mv (.t 3)) 30,
      oT 32 (.lenL (.t 31)) 30,
      oT 33 (.bin .eql (.t 32) (cI 0)) 30,
      o1 34 (.pick (.t 30) (.t 33) (cB false)),
      o1 35 (.mv (.t 34)),
      oT 36 (.mv (.t 4)) 35,
      oT 37 (.bin .eql (.t 36) (cI 0)) 35,
      o1 38 (.pick (.t 35) (.t 37) (cB false)),
      o1 0 (.mv (.t 38))])
     (.ret))))
theorem s11_ok : lookF Try.prog 11 = some (s11, 39, [.tmp 0]) := by kernel_rfl
theorem known_ok : Fn P 11 [] (boolA true) := by
  have c1 := example_ok
  have c2 := hBreaksF_ok exH [exA, exB]
  have c3 := hBreaksF_ok exH [exA, exB, exC]
  rw [ex_1] at c2
  rw [ex_2] at c3
  have z2 : zcells [Value.string ⟨#[]⟩] 2 = [strA ⟨#[]⟩, strA ⟨#[]⟩] := rfl
  have z3 : zcells [Value.string ⟨#[]⟩] 3 = [strA ⟨#[]⟩, strA ⟨#[]⟩, strA ⟨#[]⟩] := rfl
  generalize exH = H at *
  (refine fn_look s11_ok (by simp) (by intro k; simp only [go_sem, Nat.reduceEqDiff, ↓reduceIte, reduceCtorEq, Nat.reduceAdd, Nat.reduceMul, Int.reduceToNat, List.reduceReplicate, Nat.reduceLeDiff, Nat.reduceLT, Int.reduceLT, Int.reduceLE, Int.reduceEq]) fun S hS => cwp_sound _ _ _ _ ?_; simp (maxSteps := 900000) (disch := omega) only [s11, go_sem, Nat.reduceEqDiff, ↓reduceIte, reduceCtorEq, Nat.reduceAdd, Nat.reduceMul, Int.reduceToNat, List.reduceReplicate, Nat.reduceLeDiff, Nat.reduceLT, Int.reduceLT, Int.reduceLE, Int.reduceEq])
  repeat' (first | with_reducible refine inw ?_ | simp (maxSteps := 900000) (disch := omega) only [go_sem, Nat.reduceEqDiff, ↓reduceIte, reduceCtorEq, Nat.reduceAdd, Nat.reduceMul, Int.reduceToNat, List.reduceReplicate, Nat.reduceLeDiff, Nat.reduceLT, Int.reduceLT, Int.reduceLE, Int.reduceEq, z2, z3] | (with_reducible apply call (c1)); (focus simp (maxSteps := 900000) (disch := omega) only [go_sem, Nat.reduceEqDiff, ↓reduceIte, reduceCtorEq, Nat.reduceAdd, Nat.reduceMul, Int.reduceToNat, List.reduceReplicate, Nat.reduceLeDiff, Nat.reduceLT, Int.reduceLT, Int.reduceLE, Int.reduceEq, z2, z3] <;> rfl) | (with_reducible apply call_give (c2)); (focus simp (maxSteps := 900000) (disch := omega) only [go_sem, Nat.reduceEqDiff, ↓reduceIte, reduceCtorEq, Nat.reduceAdd, Nat.reduceMul, Int.reduceToNat, List.reduceReplicate, Nat.reduceLeDiff, Nat.reduceLT, Int.reduceLT, Int.reduceLE, Int.reduceEq, z2, z3] <;> rfl) | (with_reducible apply call_give (c3)); (focus simp (maxSteps := 900000) (disch := omega) only [go_sem, Nat.reduceEqDiff, ↓reduceIte, reduceCtorEq, Nat.reduceAdd, Nat.reduceMul, Int.reduceToNat, List.reduceReplicate, Nat.reduceLeDiff, Nat.reduceLT, Int.reduceLT, Int.reduceLE, Int.reduceEq, z2, z3] <;> rfl) | with_reducible refine pickB_f ?_ | with_reducible refine giv_intro fun _h => ?_ | with_reducible refine alt_intro ?_ fun _h => ?_ | with_reducible refine pickD_nil ?_ | (with_reducible refine brc (fun _h => ?_) fun _h => ?_) <;> first | (exfalso; omega) | simp only [decide_eq_false _h] | simp only [(_h : (_ : Bool) = _)] | simp only [decide_eq_true _h] | skip)
  all_goals skip
/-- ablaut/ablautlaw24.sameInts: 2 parameters, 0 captured -/
def s13 : SC := .seq (.reg [o1 4 (.mv (cB false))])
  (.seq (.seq (.reg [o1 6 (.mv (.t 0)),
     o1 7 (.lenL (.t 6)),
     o1 8 (.mv (.t 1)),
     o1 9 (.lenL (.t 8)),
     o1 10 (.bin .neq (.t 7) (.t 9))])
    (.cond (.t 10) (.seq (.reg [o1 4 (.mv (cB false))])
      (.ret)) (.skip)))
   (.seq (.seq (.reg [o1 5 (.mv (cI 0))])
     (.block 0 (.loop (.seq (.seq (.reg [o1 11 (.mv (.t 5)),
          o1 12 (.mv (.t 0)),
          o1 13 (.lenL (.t 12)),
          o1 14 (.bin .lss (.t 11) (.t 13))])
         (.cond (.t 14) (.skip) (.exit 0)))
        (.seq (.block 1 (.seq (.regD [o1 17 (.mv (.t 0)),
            o1 18 (.mv (.t 5)),
            o1 19 (.iaddr 1 (.t 17) (.t 18)),
            o1 20 (.load none (.t 19)),
            o1 21 (.mv (.t 1)),
            o1 22 (.mv (.t 5)),
            o1 23 (.iaddr 1 (.t 21) (.t 22)),
            o1 24 (.load none (.t 23)),
            o1 25 (.bin .neq (.t 20) (.t 24))])
           (.cond (.t 25) (.seq (.reg [o1 4 (.mv (cB false))])
             (.ret)) (.skip))))
         (.reg [o1 15 (.mv (.t 5)),
          o1 16 (.bin .add (.t 15) (cI 1)),
          o1 5 (.mv (.t 16))]))))))
    (.seq (.reg [o1 4 (.mv (cB true))])
     (.ret))))
theorem s13_ok : lookF Try.prog 13 = some (s13, 26, [.tmp 4]) := by kernel_rfl
theorem sameInts_ok (a b : List Int) : Fn P 13 [sl a, sl b] (boolA (decide (a = b))) := by
  by_cases hl : a.length = b.length
  case neg =>
    rw [decide_eq_false (fun e => hl (by rw [e]))]
    (refine fn_look s13_ok (by simp) (by intro k; simp only [go_sem, Nat.reduceEqDiff, ↓reduceIte, reduceCtorEq, Nat.reduceAdd, Nat.reduceMul, Int.reduceToNat, List.reduceReplicate, Nat.reduceLeDiff, Nat.reduceLT, Int.reduceLT, Int.reduceLE, Int.reduceEq]) fun S hS => cwp_sound _ _ _ _ ?_; simp (maxSteps := 900000) (disch := omega) only [s13, go_sem, Nat.reduceEqDiff, ↓reduceIte, reduceCtorEq, Nat.reduceAdd, Nat.reduceMul, Int.reduceToNat, List.reduceReplicate, Nat.reduceLeDiff, Nat.reduceLT, Int.reduceLT, Int.reduceLE, Int.reduceEq])
    repeat' (first | with_reducible refine inw ?_ | simp (maxSteps := 900000) (disch := omega) only [go_sem, Nat.reduceEqDiff, ↓reduceIte, reduceCtorEq, Nat.reduceAdd, Nat.reduceMul, Int.reduceToNat, List.reduceReplicate, Nat.reduceLeDiff, Nat.reduceLT, Int.reduceLT, Int.reduceLE, Int.reduceEq] | with_reducible refine pickB_f ?_ | with_reducible refine giv_intro fun _h => ?_ | with_reducible refine alt_intro ?_ fun _h => ?_ | with_reducible refine pickD_nil ?_ | (with_reducible refine brc (fun _h => ?_) fun _h => ?_) <;> first | (exfalso; omega) | simp only [decide_eq_false _h] | simp only [(_h : (_ : Bool) = _)] | simp only [decide_eq_true _h] | skip)
    all_goals rfl
  (refine fn_look s13_ok (by simp) (by intro k; simp only [go_sem, Nat.reduceEqDiff, ↓reduceIte, reduceCtorEq, Nat.reduceAdd, Nat.reduceMul, Int.reduceToNat, List.reduceReplicate, Nat.reduceLeDiff, Nat.reduceLT, Int.reduceLT, Int.reduceLE, Int.reduceEq]) fun S hS => cwp_sound _ _ _ _ ?_; simp (maxSteps := 900000) (disch := omega) only [s13, go_sem, Nat.reduceEqDiff, ↓reduceIte, reduceCtorEq, Nat.reduceAdd, Nat.reduceMul, Int.reduceToNat, List.reduceReplicate, Nat.reduceLeDiff, Nat.reduceLT, Int.reduceLT, Int.reduceLE, Int.reduceEq])
  repeat' (first | with_reducible refine inw ?_ | simp (maxSteps := 900000) (disch := omega) only [go_sem, Nat.reduceEqDiff, ↓reduceIte, reduceCtorEq, Nat.reduceAdd, Nat.reduceMul, Int.reduceToNat, List.reduceReplicate, Nat.reduceLeDiff, Nat.reduceLT, Int.reduceLT, Int.reduceLE, Int.reduceEq] | with_reducible refine pickB_f ?_ | with_reducible refine giv_intro fun _h => ?_ | with_reducible refine alt_intro ?_ fun _h => ?_ | with_reducible refine pickD_nil ?_ | (with_reducible refine brc (fun _h => ?_) fun _h => ?_) <;> first | (exfalso; omega) | simp only [decide_eq_false _h] | simp only [(_h : (_ : Bool) = _)] | simp only [decide_eq_true _h] | skip)
  (refine loopC hS [0, 1] (by simp only [go_sem, Nat.reduceEqDiff, ↓reduceIte, reduceCtorEq, Nat.reduceAdd, Nat.reduceMul, Int.reduceToNat, List.reduceReplicate, Nat.reduceLeDiff, Nat.reduceLT, Int.reduceLT, Int.reduceLE, Int.reduceEq]; try rfl) (fun (i : Nat) => [(5, intA i)]) (fun (i : Nat) => []) (fun (i : Nat) => i ≤ a.length ∧ ∀ j, j < i → nth a j = nth b j) (fun (i : Nat) => a.length - i) (0) ?_ (by intro s; first | (simp only [List.length_cons, List.length_nil]; done) | rfl | (rcases s with ⟨_, _⟩; rfl) | (rcases s with ⟨_, _, _⟩; rfl) | (rcases s with ⟨_, _, _, _⟩; rfl) | (rcases s with ⟨_, _, _, _, _⟩; rfl)) ?_)
  · simp (maxSteps := 900000) (disch := omega) only [go_sem, Nat.reduceEqDiff, ↓reduceIte, reduceCtorEq, Nat.reduceAdd, Nat.reduceMul, Int.reduceToNat, List.reduceReplicate, Nat.reduceLeDiff, Nat.reduceLT, Int.reduceLT, Int.reduceLE, Int.reduceEq]
    exact ⟨Nat.zero_le _, fun j hj => absurd hj (Nat.not_lt_zero _)⟩
  rintro i ⟨hi, hI⟩
  replace hi : i ≤ a.length := hi
  replace hI : ∀ j, j < i → nth a j = nth b j := hI
  by_cases hil : i < a.length
  · repeat' (first | with_reducible refine inw ?_ | simp (maxSteps := 900000) (disch := omega) only [go_sem, Nat.reduceEqDiff, ↓reduceIte, reduceCtorEq, Nat.reduceAdd, Nat.reduceMul, Int.reduceToNat, List.reduceReplicate, Nat.reduceLeDiff, Nat.reduceLT, Int.reduceLT, Int.reduceLE, Int.reduceEq] | with_reducible refine pickB_f ?_ | with_reducible refine giv_intro fun _h => ?_ | with_reducible refine alt_intro ?_ fun _h => ?_ | with_reducible refine pickD_nil ?_ | (with_reducible refine brc (fun _h => ?_) fun _h => ?_) <;> first | (exfalso; omega) | simp only [decide_eq_false _h] | simp only [(_h : (_ : Bool) = _)] | simp only [decide_eq_true _h] | skip)
    · exact (decide_eq_false fun e => _h (by rw [e])).symm
    · refine ⟨i + 1, ⟨by omega, by omega, fun j hj => ?_⟩, by omega⟩
      rcases Nat.lt_or_ge j i with h | h
      · exact hI j h
      · obtain rfl : j = i := by omega
        simpa using _h
  · have : a = b := List.ext_getElem hl fun j h1 h2 => by rw [← nth_eq h1, ← nth_eq h2]; exact hI j (by omega)
    repeat' (first | with_reducible refine inw ?_ | simp (maxSteps := 900000) (disch := omega) only [go_sem, Nat.reduceEqDiff, ↓reduceIte, reduceCtorEq, Nat.reduceAdd, Nat.reduceMul, Int.reduceToNat, List.reduceReplicate, Nat.reduceLeDiff, Nat.reduceLT, Int.reduceLT, Int.reduceLE, Int.reduceEq] | with_reducible refine pickB_f ?_ | with_reducible refine giv_intro fun _h => ?_ | with_reducible refine alt_intro ?_ fun _h => ?_ | with_reducible refine pickD_nil ?_ | (with_reducible refine brc (fun _h => ?_) fun _h => ?_) <;> first | (exfalso; omega) | simp only [decide_eq_false _h] | simp only [(_h : (_ : Bool) = _)] | simp only [decide_eq_true _h] | skip)
    exact (decide_eq_true this).symm
theorem bool_bel (r : AV) (h : ∃ n : Bool, r = boolA n) (k : Nat) : r.bel k := by obtain ⟨n, rfl⟩ := h; simp only [go_sem, Nat.reduceEqDiff, ↓reduceIte, reduceCtorEq, Nat.reduceAdd, Nat.reduceMul, Int.reduceToNat, List.reduceReplicate, Nat.reduceLeDiff, Nat.reduceLT, Int.reduceLT, Int.reduceLE, Int.reduceEq]
/-- ablaut/ablautref02.IsLong: 1 parameters, 0 captured -/
def s15 : SC := .seq (.reg [o1 2 (.mv (cB false))])
  (.seq (.reg [o1 3 (.mv (cI 0))])
   (.seq (.seq (.reg [o1 4 (.mv (cI 0))])
     (.block 0 (.loop (.seq (.seq (.reg [o1 6 (.mv (.t 4)),
          o1 7 (.mv (.t 0)),
          o1 8 (.lenL (.t 7)),
          o1 9 (.bin .lss (.t 6) (.t 8)),
          o1 10 (.mv (.t 9)),
          oT 11 (.mv (.t 3)) 10,
          oT 12 (.bin .leq (.t 11) (cI 16384)) 10,
          o1 13 (.pick (.t 10) (.t 12) (cB false))])
         (.cond (.t 13) (.skip) (.exit 0)))
        (.seq (.block 1 (.seq (.reg [o1 5 (.mv (cI 0))])
           (.block 2 (.loop (.seq (.seq (.reg [o1 16 (.mv (.t 5)),
                o1 17 (.mv (.t 0)),
                o1 18 (.mv (.t 4)),
                o1 19 (.iaddr 1 (.t 17) (.t 18)),
                o1 20 (.load none (.t 19)),
                o1 21 (.lenL (.t 20)),
                o1 22 (.bin .lss (.t 16) (.t 21)),
                o1 23 (.mv (.t 22)),
                oT 24 (.mv (.t 3)) 23,
                oT 25 (.bin .leq (.t 24) (cI 16384)) 23,
                o1 26 (.pick (.t 23) (.t 25) (cB false))])
               (.cond (.t 26) (.skip) (.exit 2)))
              (.seq (.block 3 (.reg [o1 29 (.mv (.t 3)),
                 o1 30 (.mv (.t 0)),
                 o1 31 (.mv (.t 4)),
                 o1 32 (.iaddr 1 (.t 30) (.t 31)),
                 o1 33 (.load none (.t 32)),
                 o1 34 (.mv (.t 5)),
                 o1 35 (.iaddr 1 (.t 33) (.t 34)),
                 o1 36 (.load none (.t 35)),
                 o1 37 (.lenS (.t 36)),
                 o1 38 (.bin .add (cI 1) (.t 37)),
                 o1 39 (.bin .add (.t 29) (.t 38)),
                 o1 3 (.mv (.t 39))]))
               (.reg [o1 27 (.mv (.t 5)),
                o1 28 (.bin .add (.t 27) (cI 1)),
                o1 5 (.mv (.t 28))])))))))
         (.reg [o1 14 (.mv (.t 4)),
          o1 15 (.bin .add (.t 14) (cI 1)),
          o1 4 (.mv (.t 15))]))))))
    (.seq (.reg [o1 40 (.mv (.t 3)),
      o1 41 (.bin .gtr (.t 40) (cI 16384)),
      o1 2 (.mv (.t 41))])
     (.ret))))
theorem s15_ok : lookF Try.prog 15 = some (s15, 42, [.tmp 2]) := by kernel_rfl
theorem lIsLong_ok (l : List (List Str)) : FnR P 15 [sl l] fun r => ∃ b : Bool, r = boolA b := by
  (refine fnR_look s15_ok (by simp) (bool_bel) fun S hS => cwp_sound _ _ _ _ ?_; simp (maxSteps := 900000) (disch := omega) only [s15, go_sem, Nat.reduceEqDiff, ↓reduceIte, reduceCtorEq, Nat.reduceAdd, Nat.reduceMul, Int.reduceToNat, List.reduceReplicate, Nat.reduceLeDiff, Nat.reduceLT, Int.reduceLT, Int.reduceLE, Int.reduceEq])
  (refine loopC hS [0] (by simp only [go_sem, Nat.reduceEqDiff, ↓reduceIte, reduceCtorEq, Nat.reduceAdd, Nat.reduceMul, Int.reduceToNat, List.reduceReplicate, Nat.reduceLeDiff, Nat.reduceLT, Int.reduceLT, Int.reduceLE, Int.reduceEq]; try rfl) (fun (⟨i, n⟩ : Nat × Int) => [(3, intA n), (4, intA i)]) (fun (⟨i, n⟩ : Nat × Int) => []) (fun (⟨i, n⟩ : Nat × Int) => i ≤ l.length) (fun (⟨i, n⟩ : Nat × Int) => l.length - i) ((0, 0)) ?_ (by intro s; first | (simp only [List.length_cons, List.length_nil]; done) | rfl | (rcases s with ⟨_, _⟩; rfl) | (rcases s with ⟨_, _, _⟩; rfl) | (rcases s with ⟨_, _, _, _⟩; rfl) | (rcases s with ⟨_, _, _, _, _⟩; rfl)) ?_)
  · simp (maxSteps := 900000) (disch := omega) only [go_sem, Nat.reduceEqDiff, ↓reduceIte, reduceCtorEq, Nat.reduceAdd, Nat.reduceMul, Int.reduceToNat, List.reduceReplicate, Nat.reduceLeDiff, Nat.reduceLT, Int.reduceLT, Int.reduceLE, Int.reduceEq]; simp
  rintro ⟨i, n⟩ hi
  replace hi : i ≤ l.length := hi
  repeat' (first | with_reducible refine inw ?_ | simp (maxSteps := 900000) (disch := omega) only [go_sem, Nat.reduceEqDiff, ↓reduceIte, reduceCtorEq, Nat.reduceAdd, Nat.reduceMul, Int.reduceToNat, List.reduceReplicate, Nat.reduceLeDiff, Nat.reduceLT, Int.reduceLT, Int.reduceLE, Int.reduceEq] | with_reducible refine pickB_f ?_ | with_reducible refine giv_intro fun _h => ?_ | with_reducible refine alt_intro ?_ fun _h => ?_ | with_reducible refine pickD_nil ?_ | (with_reducible refine brc (fun _h => ?_) fun _h => ?_) <;> first | (exfalso; omega) | simp only [decide_eq_false _h] | simp only [(_h : (_ : Bool) = _)] | simp only [decide_eq_true _h] | skip)
  · (refine loopC hS [0, 4] (by simp only [go_sem, Nat.reduceEqDiff, ↓reduceIte, reduceCtorEq, Nat.reduceAdd, Nat.reduceMul, Int.reduceToNat, List.reduceReplicate, Nat.reduceLeDiff, Nat.reduceLT, Int.reduceLT, Int.reduceLE, Int.reduceEq]; try rfl) (fun (⟨k, n⟩ : Nat × Int) => [(3, intA n), (5, intA k)]) (fun (⟨k, n⟩ : Nat × Int) => []) (fun (⟨k, n⟩ : Nat × Int) => k ≤ (nth l i).length) (fun (⟨k, n⟩ : Nat × Int) => (nth l i).length - k) ((0, n)) ?_ (by intro s; first | (simp only [List.length_cons, List.length_nil]; done) | rfl | (rcases s with ⟨_, _⟩; rfl) | (rcases s with ⟨_, _, _⟩; rfl) | (rcases s with ⟨_, _, _, _⟩; rfl) | (rcases s with ⟨_, _, _, _, _⟩; rfl)) ?_)
    · simp (maxSteps := 900000) (disch := omega) only [go_sem, Nat.reduceEqDiff, ↓reduceIte, reduceCtorEq, Nat.reduceAdd, Nat.reduceMul, Int.reduceToNat, List.reduceReplicate, Nat.reduceLeDiff, Nat.reduceLT, Int.reduceLT, Int.reduceLE, Int.reduceEq]; simp
    rintro ⟨k, n⟩ hk
    replace hk : k ≤ (nth l i).length := hk
    repeat' (first | with_reducible refine inw ?_ | simp (maxSteps := 900000) (disch := omega) only [go_sem, Nat.reduceEqDiff, ↓reduceIte, reduceCtorEq, Nat.reduceAdd, Nat.reduceMul, Int.reduceToNat, List.reduceReplicate, Nat.reduceLeDiff, Nat.reduceLT, Int.reduceLT, Int.reduceLE, Int.reduceEq] | with_reducible refine pickB_f ?_ | with_reducible refine giv_intro fun _h => ?_ | with_reducible refine alt_intro ?_ fun _h => ?_ | with_reducible refine pickD_nil ?_ | (with_reducible refine brc (fun _h => ?_) fun _h => ?_) <;> first | (exfalso; omega) | simp only [decide_eq_false _h] | simp only [(_h : (_ : Bool) = _)] | simp only [decide_eq_true _h] | skip)
    · exact ⟨(k + 1, _), ⟨by omega, by omega⟩, rfl, by omega⟩
    · exact ⟨(i + 1, _), ⟨by omega, by omega⟩, rfl, by omega⟩
    · exact ⟨(i + 1, _), ⟨by omega, by omega⟩, rfl, by omega⟩
  · exact ⟨_, rfl⟩
  · exact ⟨_, rfl⟩
/-- ablaut/ablautlaw24.overWords: 1 parameters, 0 captured -/
def s8 : SC := .seq (.reg [o1 2 (.mv (cB false))])
  (.seq (.reg [o1 5 (.mv (.t 0)),
    o1 6 (.lenL (.t 5)),
    o1 3 (.mv (.t 6))])
   (.seq (.seq (.reg [o1 4 (.mv (cI 0))])
     (.block 0 (.loop (.seq (.seq (.reg [o1 7 (.mv (.t 4)),
          o1 8 (.mv (.t 0)),
          o1 9 (.lenL (.t 8)),
          o1 10 (.bin .lss (.t 7) (.t 9)),
          o1 11 (.mv (.t 10)),
          oT 12 (.mv (.t 3)) 11,
          oT 13 (.bin .lss (.t 12) (cI 8192)) 11,
          o1 14 (.pick (.t 11) (.t 13) (cB false))])
         (.cond (.t 14) (.skip) (.exit 0)))
        (.seq (.block 1 (.seq (.regD [o1 17 (.mv (.t 3)),
            o1 18 (.mv (.t 0)),
            o1 19 (.mv (.t 4)),
            o1 20 (.iaddr 2 (.t 18) (.t 19)),
            o1 21 (.faddr 0 (.t 20)),
            o1 22 (.load none (.t 21)),
            o1 23 (.lenL (.t 22)),
            o1 24 (.mv (.t 0)),
            o1 25 (.mv (.t 4)),
            o1 26 (.iaddr 2 (.t 24) (.t 25)),
            o1 27 (.faddr 1 (.t 26)),
            o1 28 (.load none (.t 27)),
            o1 29 (.lenL (.t 28)),
            o1 30 (.bin .add (.t 23) (.t 29)),
            o1 31 (.bin .add (.t 17) (.t 30)),
            o1 3 (.mv (.t 31))])
           (.seq (.reg [o1 32 (.mv (.t 0)),
             o1 33 (.mv (.t 4)),
             o1 34 (.iaddr 2 (.t 32) (.t 33)),
             o1 35 (.faddr 0 (.t 34)),
             o1 36 (.load none (.t 35)),
             o1 37 (.buildSl 22 1 1 [(.slice none 0 0)] [(0, 1, (.t 36))]),
             o1 38 (.call (.f 15) [(.t 37)])])
            (.cond (.t 38) (.seq (.reg [o1 2 (.mv (cB true))])
              (.ret)) (.skip)))))
         (.reg [o1 15 (.mv (.t 4)),
          o1 16 (.bin .add (.t 15) (cI 1)),
          o1 4 (.mv (.t 16))]))))))
    (.seq (.reg [o1 39 (.mv (.t 3)),
      o1 40 (.bin .geq (.t 39) (cI 8192)),
      o1 2 (.mv (.t 40))])
     (.ret))))
theorem s8_ok : lookF Try.prog 8 = some (s8, 41, [.tmp 2]) := by kernel_rfl
theorem overW_ok (l : List Brk) : FnR P 8 [sl l] fun r => ∃ b : Bool, r = boolA b := by
  have z1 : zcells [Value.slice none 0 0] 1 = [.sc (.slice none 0 0)] := rfl
  (refine fnR_look s8_ok (by simp) (bool_bel) fun S hS => cwp_sound _ _ _ _ ?_; simp (maxSteps := 900000) (disch := omega) only [s8, go_sem, Nat.reduceEqDiff, ↓reduceIte, reduceCtorEq, Nat.reduceAdd, Nat.reduceMul, Int.reduceToNat, List.reduceReplicate, Nat.reduceLeDiff, Nat.reduceLT, Int.reduceLT, Int.reduceLE, Int.reduceEq])
  repeat' (first | with_reducible refine inw ?_ | simp (maxSteps := 900000) (disch := omega) only [go_sem, Nat.reduceEqDiff, ↓reduceIte, reduceCtorEq, Nat.reduceAdd, Nat.reduceMul, Int.reduceToNat, List.reduceReplicate, Nat.reduceLeDiff, Nat.reduceLT, Int.reduceLT, Int.reduceLE, Int.reduceEq] | with_reducible refine pickB_f ?_ | with_reducible refine giv_intro fun _h => ?_ | with_reducible refine alt_intro ?_ fun _h => ?_ | with_reducible refine pickD_nil ?_ | (with_reducible refine brc (fun _h => ?_) fun _h => ?_) <;> first | (exfalso; omega) | simp only [decide_eq_false _h] | simp only [(_h : (_ : Bool) = _)] | simp only [decide_eq_true _h] | skip)
  (refine loopC hS [0] (by simp only [go_sem, Nat.reduceEqDiff, ↓reduceIte, reduceCtorEq, Nat.reduceAdd, Nat.reduceMul, Int.reduceToNat, List.reduceReplicate, Nat.reduceLeDiff, Nat.reduceLT, Int.reduceLT, Int.reduceLE, Int.reduceEq]; try rfl) (fun (⟨i, n⟩ : Nat × Int) => [(3, intA n), (4, intA i)]) (fun (⟨i, n⟩ : Nat × Int) => []) (fun (⟨i, n⟩ : Nat × Int) => i ≤ l.length) (fun (⟨i, n⟩ : Nat × Int) => l.length - i) ((0, (l.length : Int))) ?_ (by intro s; first | (simp only [List.length_cons, List.length_nil]; done) | rfl | (rcases s with ⟨_, _⟩; rfl) | (rcases s with ⟨_, _, _⟩; rfl) | (rcases s with ⟨_, _, _, _⟩; rfl) | (rcases s with ⟨_, _, _, _, _⟩; rfl)) ?_)
  · simp (maxSteps := 900000) (disch := omega) only [go_sem, Nat.reduceEqDiff, ↓reduceIte, reduceCtorEq, Nat.reduceAdd, Nat.reduceMul, Int.reduceToNat, List.reduceReplicate, Nat.reduceLeDiff, Nat.reduceLT, Int.reduceLT, Int.reduceLE, Int.reduceEq]; simp
  rintro ⟨i, n⟩ hi
  replace hi : i ≤ l.length := hi
  by_cases hil : i < l.length
  · have eD : (cellsL l)[i * 2]? = some (sl (nth l i).1) := cells2_0 hil
    have eE : (cellsL l)[i * 2 + 1]? = some (sl (nth l i).2) := cells2_1 hil
    repeat' (first | with_reducible refine inw ?_ | simp (maxSteps := 900000) (disch := omega) only [go_sem, Nat.reduceEqDiff, ↓reduceIte, reduceCtorEq, Nat.reduceAdd, Nat.reduceMul, Int.reduceToNat, List.reduceReplicate, Nat.reduceLeDiff, Nat.reduceLT, Int.reduceLT, Int.reduceLE, Int.reduceEq, eD, eE, z1] | (with_reducible apply callR_lend (lIsLong_ok [(nth l i).1])); (focus simp (maxSteps := 900000) (disch := omega) only [go_sem, Nat.reduceEqDiff, ↓reduceIte, reduceCtorEq, Nat.reduceAdd, Nat.reduceMul, Int.reduceToNat, List.reduceReplicate, Nat.reduceLeDiff, Nat.reduceLT, Int.reduceLT, Int.reduceLE, Int.reduceEq, eD, eE, z1] <;> rfl); (focus (rintro _ ⟨_, rfl⟩; rfl)); rintro _ ⟨_, rfl⟩ | with_reducible refine pickB_f ?_ | with_reducible refine giv_intro fun _h => ?_ | with_reducible refine alt_intro ?_ fun _h => ?_ | with_reducible refine pickD_nil ?_ | (with_reducible refine brc (fun _h => ?_) fun _h => ?_) <;> first | (exfalso; omega) | simp only [decide_eq_false _h] | simp only [(_h : (_ : Bool) = _)] | simp only [decide_eq_true _h] | skip)
    all_goals first
      | exact ⟨_, rfl⟩
      | exact ⟨(i + 1, _), ⟨by omega, by omega⟩, rfl, by omega⟩
  · repeat' (first | with_reducible refine inw ?_ | simp (maxSteps := 900000) (disch := omega) only [go_sem, Nat.reduceEqDiff, ↓reduceIte, reduceCtorEq, Nat.reduceAdd, Nat.reduceMul, Int.reduceToNat, List.reduceReplicate, Nat.reduceLeDiff, Nat.reduceLT, Int.reduceLT, Int.reduceLE, Int.reduceEq] | with_reducible refine pickB_f ?_ | with_reducible refine giv_intro fun _h => ?_ | with_reducible refine alt_intro ?_ fun _h => ?_ | with_reducible refine pickD_nil ?_ | (with_reducible refine brc (fun _h => ?_) fun _h => ?_) <;> first | (exfalso; omega) | simp only [decide_eq_false _h] | simp only [(_h : (_ : Bool) = _)] | simp only [decide_eq_true _h] | skip)
    all_goals exact ⟨_, rfl⟩
end Go.Proofs.Ytfihpbeihlpfcaa.Ev

/- Which of two fractions is greater: both programs. -/
import Derived.Test.YtedbjmonfbpefaaZFnG
import Derived.Test.YtedbjmonfbpefaaZEvZ
set_option linter.unusedVariables false
set_option linter.unusedSimpArgs false
namespace Go.Proofs.Ytedbjmonfbpefaa.Ev
open Go Go.Proofs Go.RowKit

def cmpZ (a b : Int) : Int := if a < b then -1 else if b < a then 1 else 0
abbrev uA (x : Int) : AV := .sc (.int .u64 x)
/-- cmp.isNaN[uint64]: 1 parameters, 0 captured -/
def s124 : SC := .seq (.reg [o1 2 (.mv (cB false))])
  (.seq (.reg [o1 3 (.mv (.t 0)),
    o1 4 (.mv (.t 0)),
    o1 5 (.bin .neq (.t 3) (.t 4)),
    o1 2 (.mv (.t 5))])
   (.ret))
theorem s124_ok : lookF Try.prog 124 = some (s124, 6, [.tmp 2]) := by kernel_rfl
theorem nanU_ok (s : Int) : Fn P 124 [uA s] (boolA false) := by
  (refine fn_look s124_ok (by simp) (by intro k; simp only [go_sem, Nat.reduceEqDiff, ↓reduceIte, reduceCtorEq, Nat.reduceAdd, Nat.reduceMul, Int.reduceToNat, List.reduceReplicate, Nat.reduceLeDiff, Nat.reduceLT, Int.reduceLT, Int.reduceLE, Int.reduceEq]) fun S hS => cwp_sound _ _ _ _ ?_; simp (maxSteps := 900000) (disch := omega) only [s124, go_sem, Nat.reduceEqDiff, ↓reduceIte, reduceCtorEq, Nat.reduceAdd, Nat.reduceMul, Int.reduceToNat, List.reduceReplicate, Nat.reduceLeDiff, Nat.reduceLT, Int.reduceLT, Int.reduceLE, Int.reduceEq])
  repeat' (first | with_reducible refine inw ?_ | simp (maxSteps := 900000) (disch := omega) only [go_sem, Nat.reduceEqDiff, ↓reduceIte, reduceCtorEq, Nat.reduceAdd, Nat.reduceMul, Int.reduceToNat, List.reduceReplicate, Nat.reduceLeDiff, Nat.reduceLT, Int.reduceLT, Int.reduceLE, Int.reduceEq] | with_reducible refine giv_intro fun _h => ?_ | with_reducible refine alt_intro ?_ fun _h => ?_ | with_reducible refine pickD_nil ?_ | (with_reducible refine brc (fun _h => ?_) fun _h => ?_) <;> first | (exfalso; omega) | simp only [decide_eq_false _h] | simp only [(_h : (_ : Bool) = _)] | simp only [decide_eq_true _h] | skip)
  all_goals first | rfl | simp
/-- cmp.Compare[uint64]: 2 parameters, 0 captured -/
def s106 : SC := .seq (.reg [o1 4 (.mv (cI 0))])
  (.seq (.reg [o1 7 (.mv (.t 0)),
    o1 8 (.call (.f 124) [(.t 7)]),
    o1 5 (.mv (.t 8))])
   (.seq (.reg [o1 9 (.mv (.t 1)),
     o1 10 (.call (.f 124) [(.t 9)]),
     o1 6 (.mv (.t 10))])
    (.seq (.seq (.reg [o1 11 (.mv (.t 5))])
      (.cond (.t 11) (.seq (.seq (.reg [o1 12 (.mv (.t 6))])
         (.cond (.t 12) (.seq (.reg [o1 4 (.mv (cI 0))])
           (.ret)) (.skip)))
        (.seq (.reg [o1 4 (.mv (cI (-1)))])
         (.ret))) (.skip)))
     (.seq (.seq (.reg [o1 13 (.mv (.t 6))])
       (.cond (.t 13) (.seq (.reg [o1 4 (.mv (cI 1))])
         (.ret)) (.skip)))
      (.seq (.seq (.reg [o1 14 (.mv (.t 0)),
         o1 15 (.mv (.t 1)),
         o1 16 (.bin .lss (.t 14) (.t 15))])
        (.cond (.t 16) (.seq (.reg [o1 4 (.mv (cI (-1)))])
          (.ret)) (.skip)))
       (.seq (.seq (.reg [o1 17 (.mv (.t 0)),
          o1 18 (.mv (.t 1)),
          o1 19 (.bin .gtr (.t 17) (.t 18))])
         (.cond (.t 19) (.seq (.reg [o1 4 (.mv (cI 1))])
           (.ret)) (.skip)))
        (.seq (.reg [o1 4 (.mv (cI 0))])
         (.ret))))))))
theorem s106_ok : lookF Try.prog 106 = some (s106, 20, [.tmp 4]) := by kernel_rfl
theorem cmpU_ok (a b : Int) : Fn P 106 [uA a, uA b] (intA (cmpZ a b)) := by
  have c1 := nanU_ok a
  have c2 := nanU_ok b
  (refine fn_look s106_ok (by simp) (by intro k; simp only [go_sem, Nat.reduceEqDiff, ↓reduceIte, reduceCtorEq, Nat.reduceAdd, Nat.reduceMul, Int.reduceToNat, List.reduceReplicate, Nat.reduceLeDiff, Nat.reduceLT, Int.reduceLT, Int.reduceLE, Int.reduceEq]) fun S hS => cwp_sound _ _ _ _ ?_; simp (maxSteps := 900000) (disch := omega) only [s106, go_sem, Nat.reduceEqDiff, ↓reduceIte, reduceCtorEq, Nat.reduceAdd, Nat.reduceMul, Int.reduceToNat, List.reduceReplicate, Nat.reduceLeDiff, Nat.reduceLT, Int.reduceLT, Int.reduceLE, Int.reduceEq])
  repeat' (first | with_reducible refine inw ?_ | simp (maxSteps := 900000) (disch := omega) only [go_sem, Nat.reduceEqDiff, ↓reduceIte, reduceCtorEq, Nat.reduceAdd, Nat.reduceMul, Int.reduceToNat, List.reduceReplicate, Nat.reduceLeDiff, Nat.reduceLT, Int.reduceLT, Int.reduceLE, Int.reduceEq] | (with_reducible apply call (c1)); (focus simp (maxSteps := 900000) (disch := omega) only [go_sem, Nat.reduceEqDiff, ↓reduceIte, reduceCtorEq, Nat.reduceAdd, Nat.reduceMul, Int.reduceToNat, List.reduceReplicate, Nat.reduceLeDiff, Nat.reduceLT, Int.reduceLT, Int.reduceLE, Int.reduceEq] <;> rfl) | (with_reducible apply call (c2)); (focus simp (maxSteps := 900000) (disch := omega) only [go_sem, Nat.reduceEqDiff, ↓reduceIte, reduceCtorEq, Nat.reduceAdd, Nat.reduceMul, Int.reduceToNat, List.reduceReplicate, Nat.reduceLeDiff, Nat.reduceLT, Int.reduceLT, Int.reduceLE, Int.reduceEq] <;> rfl) | with_reducible refine giv_intro fun _h => ?_ | with_reducible refine alt_intro ?_ fun _h => ?_ | with_reducible refine pickD_nil ?_ | (with_reducible refine brc (fun _h => ?_) fun _h => ?_) <;> first | (exfalso; omega) | simp only [decide_eq_false _h] | simp only [(_h : (_ : Bool) = _)] | simp only [decide_eq_true _h] | skip)
  all_goals (rw [cmpZ]; simp [*])
def orI : List Int → Int
  | [] => 0
  | x :: l => if x ≠ 0 then x else orI l
theorem orI_drop {l : List Int} {i : Nat} (h : i < l.length) : orI (l.drop i) = if nth l i ≠ 0 then nth l i else orI (l.drop (i + 1)) := by
  rw [nth_drop h]; rfl
/-- cmp.Or[int]: 1 parameters, 0 captured -/
def s105 : SC := .seq (.reg [o1 2 (.mv (cI 0))])
  (.seq (.reg [o1 3 (.mv (cI 0))])
   (.seq (.seq (.reg [o1 6 (.mv (.t 0)),
      o1 7 (.lenL (.t 6)),
      o1 8 (.mv (cI 0))])
     (.block 0 (.loop (.seq (.reg [o1 9 (.bin .lss (.t 8) (.t 7))])
        (.seq (.cond (.t 9) (.skip) (.exit 0))
         (.seq (.block 1 (.seq (.reg [o1 10 (.iaddr 1 (.t 6) (.t 8)),
             o1 11 (.load none (.t 10)),
             o1 5 (.mv (.t 11))])
            (.seq (.reg [o1 12 (.mv (.t 5)),
              o1 13 (.mv (.t 3)),
              o1 14 (.bin .neq (.t 12) (.t 13))])
             (.cond (.t 14) (.seq (.reg [o1 15 (.mv (.t 5)),
                o1 2 (.mv (.t 15))])
               (.ret)) (.skip)))))
          (.reg [o1 16 (.bin .add (.t 8) (cI 1)),
           o1 8 (.mv (.t 16))])))))))
    (.seq (.reg [o1 17 (.mv (.t 3)),
      o1 2 (.mv (.t 17))])
     (.ret))))
theorem s105_ok : lookF Try.prog 105 = some (s105, 18, [.tmp 2]) := by kernel_rfl
theorem or_ok (l : List Int) : Fn P 105 [sl l] (intA (orI l)) := by
  (refine fn_look s105_ok (by simp) (by intro k; simp only [go_sem, Nat.reduceEqDiff, ↓reduceIte, reduceCtorEq, Nat.reduceAdd, Nat.reduceMul, Int.reduceToNat, List.reduceReplicate, Nat.reduceLeDiff, Nat.reduceLT, Int.reduceLT, Int.reduceLE, Int.reduceEq]) fun S hS => cwp_sound _ _ _ _ ?_; simp (maxSteps := 900000) (disch := omega) only [s105, go_sem, Nat.reduceEqDiff, ↓reduceIte, reduceCtorEq, Nat.reduceAdd, Nat.reduceMul, Int.reduceToNat, List.reduceReplicate, Nat.reduceLeDiff, Nat.reduceLT, Int.reduceLT, Int.reduceLE, Int.reduceEq])
  repeat' (first | with_reducible refine inw ?_ | simp (maxSteps := 900000) (disch := omega) only [go_sem, Nat.reduceEqDiff, ↓reduceIte, reduceCtorEq, Nat.reduceAdd, Nat.reduceMul, Int.reduceToNat, List.reduceReplicate, Nat.reduceLeDiff, Nat.reduceLT, Int.reduceLT, Int.reduceLE, Int.reduceEq] | with_reducible refine giv_intro fun _h => ?_ | with_reducible refine alt_intro ?_ fun _h => ?_ | with_reducible refine pickD_nil ?_ | (with_reducible refine brc (fun _h => ?_) fun _h => ?_) <;> first | (exfalso; omega) | simp only [decide_eq_false _h] | simp only [(_h : (_ : Bool) = _)] | simp only [decide_eq_true _h] | skip)
  (refine loopC hS [3, 6, 7] (by simp only [go_sem, Nat.reduceEqDiff, ↓reduceIte, reduceCtorEq, Nat.reduceAdd, Nat.reduceMul, Int.reduceToNat, List.reduceReplicate, Nat.reduceLeDiff, Nat.reduceLT, Int.reduceLT, Int.reduceLE, Int.reduceEq]; try rfl) (fun (i : Nat) => [(8, intA i)]) (fun (i : Nat) => []) (fun (i : Nat) => i ≤ l.length ∧ orI l = orI (l.drop i)) (fun (i : Nat) => l.length - i) (0) ?h01 ?hn1 ?rd1; case hn1 => (intro s; first | rfl | (rcases s with ⟨_, _⟩; rfl) | (rcases s with ⟨_, _, _⟩; rfl) | (rcases s with ⟨_, _, _, _⟩; rfl) | (rcases s with ⟨_, _, _, _, _⟩; rfl)))
  · simp (maxSteps := 900000) (disch := omega) only [go_sem, Nat.reduceEqDiff, ↓reduceIte, reduceCtorEq, Nat.reduceAdd, Nat.reduceMul, Int.reduceToNat, List.reduceReplicate, Nat.reduceLeDiff, Nat.reduceLT, Int.reduceLT, Int.reduceLE, Int.reduceEq]; simp
  rintro i ⟨hi, h2⟩
  replace hi : i ≤ l.length := hi
  replace h2 : orI l = orI (l.drop i) := h2
  by_cases hil : i < l.length
  · rw [orI_drop hil] at h2
    repeat' (first | with_reducible refine inw ?_ | simp (maxSteps := 900000) (disch := omega) only [go_sem, Nat.reduceEqDiff, ↓reduceIte, reduceCtorEq, Nat.reduceAdd, Nat.reduceMul, Int.reduceToNat, List.reduceReplicate, Nat.reduceLeDiff, Nat.reduceLT, Int.reduceLT, Int.reduceLE, Int.reduceEq] | with_reducible refine giv_intro fun _h => ?_ | with_reducible refine alt_intro ?_ fun _h => ?_ | with_reducible refine pickD_nil ?_ | (with_reducible refine brc (fun _h => ?_) fun _h => ?_) <;> first | (exfalso; omega) | simp only [decide_eq_false _h] | simp only [(_h : (_ : Bool) = _)] | simp only [decide_eq_true _h] | skip)
    · rw [h2, if_pos _h]
    · exact ⟨i + 1, ⟨by omega, by omega, by rw [h2]; simp [_h]⟩, by omega⟩
  · rw [List.drop_eq_nil_of_le (by omega)] at h2
    repeat' (first | with_reducible refine inw ?_ | simp (maxSteps := 900000) (disch := omega) only [go_sem, Nat.reduceEqDiff, ↓reduceIte, reduceCtorEq, Nat.reduceAdd, Nat.reduceMul, Int.reduceToNat, List.reduceReplicate, Nat.reduceLeDiff, Nat.reduceLT, Int.reduceLT, Int.reduceLE, Int.reduceEq] | with_reducible refine giv_intro fun _h => ?_ | with_reducible refine alt_intro ?_ fun _h => ?_ | with_reducible refine pickD_nil ?_ | (with_reducible refine brc (fun _h => ?_) fun _h => ?_) <;> first | (exfalso; omega) | simp only [decide_eq_false _h] | simp only [(_h : (_ : Bool) = _)] | simp only [decide_eq_true _h] | skip)
    exact h2.symm
def shU (x : Int) : Int := x.fdiv (2 ^ Nat.min 32 64)
def lwU (x : Int) : Int := bits .and .u64 x 4294967295
abbrev wrU (x : Int) : Int := IntKind.u64.wrap x
def tM (x y : Int) : Int := wrU (wrU (shU x * lwU y) + shU (wrU (lwU x * lwU y)))
def hiM (x y : Int) : Int := wrU (wrU (wrU (shU x * shU y) + shU (tM x y)) + shU (wrU (lwU (tM x y) + wrU (lwU x * shU y))))
def hiU (a b : Int) : Int := hiM (wrU a) (wrU b)
def loU (a b : Int) : Int := wrU (wrU a * wrU b)
abbrev prA (a b : Int) : AV := .agg [uA (hiU a b), uA (loU a b)]
/-- math/bits.Mul64: 2 parameters, 0 captured -/
def s107 : SC := .seq (.reg [o1 4 (.mv (.c (.int .u64 0))),
   o1 5 (.mv (.c (.int .u64 0)))])
  (.seq (.reg [o1 14 (.mv (.t 0)),
    o1 15 (.bin .and (.t 14) (.c (.int .u64 4294967295))),
    o1 6 (.mv (.t 15))])
   (.seq (.reg [o1 16 (.mv (.t 0)),
     o1 17 (.bin .shr (.t 16) (.c (.int .u64 32))),
     o1 7 (.mv (.t 17))])
    (.seq (.reg [o1 18 (.mv (.t 1)),
      o1 19 (.bin .and (.t 18) (.c (.int .u64 4294967295))),
      o1 8 (.mv (.t 19))])
     (.seq (.reg [o1 20 (.mv (.t 1)),
       o1 21 (.bin .shr (.t 20) (.c (.int .u64 32))),
       o1 9 (.mv (.t 21))])
      (.seq (.reg [o1 22 (.mv (.t 6)),
        o1 23 (.mv (.t 8)),
        o1 24 (.bin .mul (.t 22) (.t 23)),
        o1 10 (.mv (.t 24))])
       (.seq (.reg [o1 25 (.mv (.t 7)),
         o1 26 (.mv (.t 8)),
         o1 27 (.bin .mul (.t 25) (.t 26)),
         o1 28 (.mv (.t 10)),
         o1 29 (.bin .shr (.t 28) (.c (.int .u64 32))),
         o1 30 (.bin .add (.t 27) (.t 29)),
         o1 11 (.mv (.t 30))])
        (.seq (.reg [o1 31 (.mv (.t 11)),
          o1 32 (.bin .and (.t 31) (.c (.int .u64 4294967295))),
          o1 12 (.mv (.t 32))])
         (.seq (.reg [o1 33 (.mv (.t 11)),
           o1 34 (.bin .shr (.t 33) (.c (.int .u64 32))),
           o1 13 (.mv (.t 34))])
          (.seq (.reg [o1 35 (.mv (.t 12)),
            o1 36 (.mv (.t 6)),
            o1 37 (.mv (.t 9)),
            o1 38 (.bin .mul (.t 36) (.t 37)),
            o1 39 (.bin .add (.t 35) (.t 38)),
            o1 12 (.mv (.t 39))])
           (.seq (.reg [o1 40 (.mv (.t 7)),
             o1 41 (.mv (.t 9)),
             o1 42 (.bin .mul (.t 40) (.t 41)),
             o1 43 (.mv (.t 13)),
             o1 44 (.bin .add (.t 42) (.t 43)),
             o1 45 (.mv (.t 12)),
             o1 46 (.bin .shr (.t 45) (.c (.int .u64 32))),
             o1 47 (.bin .add (.t 44) (.t 46)),
             o1 4 (.mv (.t 47))])
            (.seq (.reg [o1 48 (.mv (.t 0)),
              o1 49 (.mv (.t 1)),
              o1 50 (.bin .mul (.t 48) (.t 49)),
              o1 5 (.mv (.t 50))])
             (.ret))))))))))))
theorem s107_ok : lookF Try.prog 107 = some (s107, 51, [.tmp 4, .tmp 5]) := by kernel_rfl
theorem mul_ok (x y : Int) : Fn P 107 [uA x, uA y] (.tup [uA (hiM x y), uA (wrU (x * y))]) := by
  (refine fn_look s107_ok (by simp) (by intro k; simp only [go_sem, Nat.reduceEqDiff, ↓reduceIte, reduceCtorEq, Nat.reduceAdd, Nat.reduceMul, Int.reduceToNat, List.reduceReplicate, Nat.reduceLeDiff, Nat.reduceLT, Int.reduceLT, Int.reduceLE, Int.reduceEq]) fun S hS => cwp_sound _ _ _ _ ?_; simp (maxSteps := 900000) (disch := omega) only [s107, go_sem, Nat.reduceEqDiff, ↓reduceIte, reduceCtorEq, Nat.reduceAdd, Nat.reduceMul, Int.reduceToNat, List.reduceReplicate, Nat.reduceLeDiff, Nat.reduceLT, Int.reduceLT, Int.reduceLE, Int.reduceEq])
  repeat' (first | with_reducible refine inw ?_ | simp (maxSteps := 900000) (disch := omega) only [go_sem, Nat.reduceEqDiff, ↓reduceIte, reduceCtorEq, Nat.reduceAdd, Nat.reduceMul, Int.reduceToNat, List.reduceReplicate, Nat.reduceLeDiff, Nat.reduceLT, Int.reduceLT, Int.reduceLE, Int.reduceEq] | with_reducible refine giv_intro fun _h => ?_ | with_reducible refine alt_intro ?_ fun _h => ?_ | with_reducible refine pickD_nil ?_ | (with_reducible refine brc (fun _h => ?_) fun _h => ?_) <;> first | (exfalso; omega) | simp only [decide_eq_false _h] | simp only [(_h : (_ : Bool) = _)] | simp only [decide_eq_true _h] | skip)
  rfl
/-- ablaut/tally.product: 2 parameters, 0 captured -/
def s104 : SC := .seq (.reg [o1 4 (.alloc 127 2 [(.int .u64 0), (.int .u64 0)])])
  (.seq (.reg [o1 8 (.mv (.t 0)),
    o1 9 (.cvi .u64 (.t 8)),
    o1 10 (.mv (.t 1)),
    o1 11 (.cvi .u64 (.t 10)),
    o1 12 (.call (.f 107) [(.t 9), (.t 11)]),
    o1 7 (.mv (.t 12)),
    o1 13 (.ext (.t 7) 0),
    o1 14 (.ext (.t 7) 1),
    o1 5 (.mv (.t 13)),
    o1 6 (.mv (.t 14))])
   (.seq (.reg [o1 15 (.mv (.t 5)),
     o1 16 (.mv (.t 6)),
     o1 17 (.build [(.int .u64 0), (.int .u64 0)] [(0, 1, (.t 15)), (1, 1, (.t 16))]),
     o0 (.store 2 (.t 4) (.t 17))])
    (.ret)))
theorem s104_ok : lookF Try.prog 104 = some (s104, 18, [.cell 4 (some 2)]) := by kernel_rfl
theorem product_ok (a b : Int) : Fn P 104 [intA a, intA b] (prA a b) := by
  have c1 := mul_ok (IntKind.u64.wrap a) (IntKind.u64.wrap b)
  (refine fn_look s104_ok (by simp) (by intro k; simp only [go_sem, Nat.reduceEqDiff, ↓reduceIte, reduceCtorEq, Nat.reduceAdd, Nat.reduceMul, Int.reduceToNat, List.reduceReplicate, Nat.reduceLeDiff, Nat.reduceLT, Int.reduceLT, Int.reduceLE, Int.reduceEq]) fun S hS => cwp_sound _ _ _ _ ?_; simp (maxSteps := 900000) (disch := omega) only [s104, go_sem, Nat.reduceEqDiff, ↓reduceIte, reduceCtorEq, Nat.reduceAdd, Nat.reduceMul, Int.reduceToNat, List.reduceReplicate, Nat.reduceLeDiff, Nat.reduceLT, Int.reduceLT, Int.reduceLE, Int.reduceEq])
  repeat' (first | with_reducible refine inw ?_ | simp (maxSteps := 900000) (disch := omega) only [go_sem, Nat.reduceEqDiff, ↓reduceIte, reduceCtorEq, Nat.reduceAdd, Nat.reduceMul, Int.reduceToNat, List.reduceReplicate, Nat.reduceLeDiff, Nat.reduceLT, Int.reduceLT, Int.reduceLE, Int.reduceEq] | (with_reducible apply call (c1)); (focus simp (maxSteps := 900000) (disch := omega) only [go_sem, Nat.reduceEqDiff, ↓reduceIte, reduceCtorEq, Nat.reduceAdd, Nat.reduceMul, Int.reduceToNat, List.reduceReplicate, Nat.reduceLeDiff, Nat.reduceLT, Int.reduceLT, Int.reduceLE, Int.reduceEq] <;> rfl) | with_reducible refine giv_intro fun _h => ?_ | with_reducible refine alt_intro ?_ fun _h => ?_ | with_reducible refine pickD_nil ?_ | (with_reducible refine brc (fun _h => ?_) fun _h => ?_) <;> first | (exfalso; omega) | simp only [decide_eq_false _h] | simp only [(_h : (_ : Bool) = _)] | simp only [decide_eq_true _h] | skip)
  all_goals rfl
/-- How two products stand to each other. -/
def cmpP (a b c d : Int) : Int := orI [cmpZ (hiU a b) (hiU c d), cmpZ (loU a b) (loU c d)]
theorem cmpZ_neg (a b : Int) : cmpZ b a = -cmpZ a b := by
  rw [cmpZ, cmpZ]
  split <;> split <;> (try split) <;> omega
theorem cmpP_neg (a b c d : Int) : cmpP c d a b = -cmpP a b c d := by
  rw [cmpP, cmpP]
  simp only [orI]
  rw [cmpZ_neg (hiU a b), cmpZ_neg (loU a b)]
  split <;> split <;> (try split) <;> (try split) <;> omega
theorem cmpP_is (a b c d : Int) : cmpP a b c d = if hiU a b < hiU c d ∨ (hiU a b = hiU c d ∧ loU a b < loU c d) then -1 else if hiU c d < hiU a b ∨ loU c d < loU a b then 1 else 0 := by
  rw [cmpP]
  simp only [orI, cmpZ]
  split <;> split <;> (try split) <;> (try split) <;> (try split) <;> (try split) <;> omega
theorem cmpP_le (a b c d : Int) : -1 ≤ cmpP a b c d ∧ cmpP a b c d ≤ 1 := by
  rw [cmpP_is]
  split <;> (try split) <;> omega
/-- ablaut/tally.compare: 2 parameters, 0 captured -/
def s59 : SC := .seq (.reg [o1 2 (.box 27 2 (.t 0)),
   o1 3 (.box 27 2 (.t 1)),
   o1 4 (.mv (cI 0))])
  (.seq (.regH [(127, 2), (127, 2)] [(true, none, o1 7 (.faddr 0 (.t 2))),
    (true, none, o1 8 (.load none (.t 7))),
    (true, none, o1 9 (.faddr 1 (.t 3))),
    (true, none, o1 10 (.load none (.t 9))),
    (true, none, o1 11 (.call (.f 104) [(.t 8), (.t 10)])),
    (true, none, o1 12 (.faddr 0 (.t 3))),
    (true, none, o1 13 (.load none (.t 12))),
    (true, none, o1 14 (.faddr 1 (.t 2))),
    (true, none, o1 15 (.load none (.t 14))),
    (true, none, o1 16 (.call (.f 104) [(.t 13), (.t 15)])),
    (true, (some 0), o1 5 (.alloc 127 2 [(.int .u64 0), (.int .u64 0)])),
    (true, (some 1), o1 6 (.alloc 127 2 [(.int .u64 0), (.int .u64 0)])),
    (false, none, o0 (.store 2 (.t 5) (.t 11))),
    (false, none, o0 (.store 2 (.t 6) (.t 16)))])
   (.seq (.regD [o1 17 (.iaddrA 2 1 (.t 5) (cI 0)),
     o1 18 (.load none (.t 17)),
     o1 19 (.iaddrA 2 1 (.t 6) (cI 0)),
     o1 20 (.load none (.t 19)),
     o1 21 (.call (.f 106) [(.t 18), (.t 20)]),
     o1 22 (.iaddrA 2 1 (.t 5) (cI 1)),
     o1 23 (.load none (.t 22)),
     o1 24 (.iaddrA 2 1 (.t 6) (cI 1)),
     o1 25 (.load none (.t 24)),
     o1 26 (.call (.f 106) [(.t 23), (.t 25)]),
     o1 27 (.buildSl 3 1 2 [(.int .i64 0)] [(0, 1, (.t 21)), (1, 1, (.t 26))]),
     o1 28 (.call (.f 105) [(.t 27)]),
     o1 4 (.mv (.t 28))])
    (.ret)))
theorem s59_ok : lookF Try.prog 59 = some (s59, 29, [.tmp 4]) := by kernel_rfl
theorem compare_ok (a b : Int × Int) : Fn P 59 [frA a.1 a.2, frA b.1 b.2] (intA (cmpP a.1 b.2 b.1 a.2)) := by
  have c1 := product_ok a.1 b.2
  have c2 := product_ok b.1 a.2
  have c3 := cmpU_ok (hiU a.1 b.2) (hiU b.1 a.2)
  have c4 := cmpU_ok (loU a.1 b.2) (loU b.1 a.2)
  have c5 := or_ok [cmpZ (hiU a.1 b.2) (hiU b.1 a.2), cmpZ (loU a.1 b.2) (loU b.1 a.2)]
  (refine fn_look s59_ok (by simp) (by intro k; simp only [go_sem, Nat.reduceEqDiff, ↓reduceIte, reduceCtorEq, Nat.reduceAdd, Nat.reduceMul, Int.reduceToNat, List.reduceReplicate, Nat.reduceLeDiff, Nat.reduceLT, Int.reduceLT, Int.reduceLE, Int.reduceEq]) fun S hS => cwp_sound _ _ _ _ ?_; simp (maxSteps := 900000) (disch := omega) only [s59, go_sem, Nat.reduceEqDiff, ↓reduceIte, reduceCtorEq, Nat.reduceAdd, Nat.reduceMul, Int.reduceToNat, List.reduceReplicate, Nat.reduceLeDiff, Nat.reduceLT, Int.reduceLT, Int.reduceLE, Int.reduceEq])
  repeat' (first | with_reducible refine inw ?_ | simp (maxSteps := 900000) (disch := omega) only [go_sem, Nat.reduceEqDiff, ↓reduceIte, reduceCtorEq, Nat.reduceAdd, Nat.reduceMul, Int.reduceToNat, List.reduceReplicate, Nat.reduceLeDiff, Nat.reduceLT, Int.reduceLT, Int.reduceLE, Int.reduceEq] | (with_reducible apply call_D (c1)); (focus simp (maxSteps := 900000) (disch := omega) only [go_sem, Nat.reduceEqDiff, ↓reduceIte, reduceCtorEq, Nat.reduceAdd, Nat.reduceMul, Int.reduceToNat, List.reduceReplicate, Nat.reduceLeDiff, Nat.reduceLT, Int.reduceLT, Int.reduceLE, Int.reduceEq] <;> rfl) | (with_reducible apply call_D (c2)); (focus simp (maxSteps := 900000) (disch := omega) only [go_sem, Nat.reduceEqDiff, ↓reduceIte, reduceCtorEq, Nat.reduceAdd, Nat.reduceMul, Int.reduceToNat, List.reduceReplicate, Nat.reduceLeDiff, Nat.reduceLT, Int.reduceLT, Int.reduceLE, Int.reduceEq] <;> rfl) | (with_reducible apply call_D (c3)); (focus simp (maxSteps := 900000) (disch := omega) only [go_sem, Nat.reduceEqDiff, ↓reduceIte, reduceCtorEq, Nat.reduceAdd, Nat.reduceMul, Int.reduceToNat, List.reduceReplicate, Nat.reduceLeDiff, Nat.reduceLT, Int.reduceLT, Int.reduceLE, Int.reduceEq] <;> rfl) | (with_reducible apply call_D (c4)); (focus simp (maxSteps := 900000) (disch := omega) only [go_sem, Nat.reduceEqDiff, ↓reduceIte, reduceCtorEq, Nat.reduceAdd, Nat.reduceMul, Int.reduceToNat, List.reduceReplicate, Nat.reduceLeDiff, Nat.reduceLT, Int.reduceLT, Int.reduceLE, Int.reduceEq] <;> rfl) | (with_reducible apply call_D (c5)); (focus simp (maxSteps := 900000) (disch := omega) only [go_sem, Nat.reduceEqDiff, ↓reduceIte, reduceCtorEq, Nat.reduceAdd, Nat.reduceMul, Int.reduceToNat, List.reduceReplicate, Nat.reduceLeDiff, Nat.reduceLT, Int.reduceLT, Int.reduceLE, Int.reduceEq] <;> rfl) | with_reducible refine giv_intro fun _h => ?_ | with_reducible refine alt_intro ?_ fun _h => ?_ | with_reducible refine pickD_nil ?_ | (with_reducible refine brc (fun _h => ?_) fun _h => ?_) <;> first | (exfalso; omega) | simp only [decide_eq_false _h] | simp only [(_h : (_ : Bool) = _)] | simp only [decide_eq_true _h] | skip)
  rfl
/-- ablaut/ablautref27.compared: 2 parameters, 0 captured -/
def s60 : SC := .seq (.reg [o1 2 (.box 27 2 (.t 0)),
   o1 3 (.box 27 2 (.t 1)),
   o1 4 (.mv (cI 0))])
  (.seq (.reg [o1 10 (.faddr 0 (.t 2)),
    o1 11 (.load none (.t 10)),
    o1 12 (.cvi .u64 (.t 11)),
    o1 13 (.faddr 1 (.t 3)),
    o1 14 (.load none (.t 13)),
    o1 15 (.cvi .u64 (.t 14)),
    o1 16 (.call (.f 107) [(.t 12), (.t 15)]),
    o1 9 (.mv (.t 16)),
    o1 17 (.ext (.t 9) 0),
    o1 18 (.ext (.t 9) 1),
    o1 5 (.mv (.t 17)),
    o1 6 (.mv (.t 18))])
   (.seq (.reg [o1 20 (.faddr 0 (.t 3)),
     o1 21 (.load none (.t 20)),
     o1 22 (.cvi .u64 (.t 21)),
     o1 23 (.faddr 1 (.t 2)),
     o1 24 (.load none (.t 23)),
     o1 25 (.cvi .u64 (.t 24)),
     o1 26 (.call (.f 107) [(.t 22), (.t 25)]),
     o1 19 (.mv (.t 26)),
     o1 27 (.ext (.t 19) 0),
     o1 28 (.ext (.t 19) 1),
     o1 7 (.mv (.t 27)),
     o1 8 (.mv (.t 28))])
    (.seq (.block 0 (.seq (.reg [o1 30 (.mv (.t 5)),
        o1 31 (.mv (.t 7)),
        o1 32 (.bin .lss (.t 30) (.t 31)),
        o1 33 (.mv (.t 32)),
        oF 34 (.mv (.t 5)) 33,
        oF 35 (.mv (.t 7)) 33,
        oF 36 (.bin .eql (.t 34) (.t 35)) 33,
        oF 37 (.mv (.t 36)) 33,
        oT 38 (.mv (.t 6)) 37,
        oT 39 (.mv (.t 8)) 37,
        oT 40 (.bin .lss (.t 38) (.t 39)) 37,
        oF 41 (.pick (.t 37) (.t 40) (cB false)) 33,
        o1 42 (.pick (.t 33) (cB true) (.t 41)),
        o1 29 (.mv (.t 42))])
       (.cond (.t 29) (.seq (.reg [o1 4 (.mv (cI (-1)))])
         (.ret)) (.seq (.reg [o1 44 (.mv (.t 5)),
          o1 45 (.mv (.t 7)),
          o1 46 (.bin .gtr (.t 44) (.t 45)),
          o1 47 (.mv (.t 46)),
          oF 48 (.mv (.t 6)) 47,
          oF 49 (.mv (.t 8)) 47,
          oF 50 (.bin .gtr (.t 48) (.t 49)) 47,
          o1 51 (.pick (.t 47) (cB true) (.t 50)),
          o1 43 (.mv (.t 51))])
         (.cond (.t 43) (.seq (.reg [o1 4 (.mv (cI 1))])
           (.ret)) (.skip))))))
     (.seq (.reg [o1 4 (.mv (cI 0))])
      (.ret)))))
theorem s60_ok : lookF Try.prog 60 = some (s60, 52, [.tmp 4]) := by kernel_rfl
theorem compared_ok (a b : Int × Int) : Fn P 60 [frA a.1 a.2, frA b.1 b.2] (intA (cmpP a.1 b.2 b.1 a.2)) := by
  have c1 := mul_ok (IntKind.u64.wrap a.1) (IntKind.u64.wrap b.2)
  have c2 := mul_ok (IntKind.u64.wrap b.1) (IntKind.u64.wrap a.2)
  rw [cmpP_is]
  change Fn P _ _ (.tup [uA (hiU a.1 b.2), uA (loU a.1 b.2)]) at c1
  change Fn P _ _ (.tup [uA (hiU b.1 a.2), uA (loU b.1 a.2)]) at c2
  generalize hiU a.1 b.2 = h1 at *
  generalize hiU b.1 a.2 = h2 at *
  generalize loU a.1 b.2 = l1 at *
  generalize loU b.1 a.2 = l2 at *
  (refine fn_look s60_ok (by simp) (by intro k; simp only [go_sem, Nat.reduceEqDiff, ↓reduceIte, reduceCtorEq, Nat.reduceAdd, Nat.reduceMul, Int.reduceToNat, List.reduceReplicate, Nat.reduceLeDiff, Nat.reduceLT, Int.reduceLT, Int.reduceLE, Int.reduceEq]) fun S hS => cwp_sound _ _ _ _ ?_; simp (maxSteps := 900000) (disch := omega) only [s60, go_sem, Nat.reduceEqDiff, ↓reduceIte, reduceCtorEq, Nat.reduceAdd, Nat.reduceMul, Int.reduceToNat, List.reduceReplicate, Nat.reduceLeDiff, Nat.reduceLT, Int.reduceLT, Int.reduceLE, Int.reduceEq])
  repeat' (first | with_reducible refine inw ?_ | simp (maxSteps := 900000) (disch := omega) only [go_sem, Nat.reduceEqDiff, ↓reduceIte, reduceCtorEq, Nat.reduceAdd, Nat.reduceMul, Int.reduceToNat, List.reduceReplicate, Nat.reduceLeDiff, Nat.reduceLT, Int.reduceLT, Int.reduceLE, Int.reduceEq] | (with_reducible apply call (c1)); (focus simp (maxSteps := 900000) (disch := omega) only [go_sem, Nat.reduceEqDiff, ↓reduceIte, reduceCtorEq, Nat.reduceAdd, Nat.reduceMul, Int.reduceToNat, List.reduceReplicate, Nat.reduceLeDiff, Nat.reduceLT, Int.reduceLT, Int.reduceLE, Int.reduceEq] <;> rfl) | (with_reducible apply call (c2)); (focus simp (maxSteps := 900000) (disch := omega) only [go_sem, Nat.reduceEqDiff, ↓reduceIte, reduceCtorEq, Nat.reduceAdd, Nat.reduceMul, Int.reduceToNat, List.reduceReplicate, Nat.reduceLeDiff, Nat.reduceLT, Int.reduceLT, Int.reduceLE, Int.reduceEq] <;> rfl) | with_reducible refine giv_intro fun _h => ?_ | with_reducible refine alt_intro ?_ fun _h => ?_ | with_reducible refine pickD_nil ?_ | (with_reducible refine brc (fun _h => ?_) fun _h => ?_) <;> first | (exfalso; omega) | simp only [decide_eq_false _h] | simp only [(_h : (_ : Bool) = _)] | simp only [decide_eq_true _h] | skip)
  all_goals (split <;> (try split) <;> omega)
def badS (a : Int × Int) : Prop := a.2 < 1 ∨ a.1 < 0 ∨ 9007199254740992 < a.1 ∨ 9007199254740992 < a.2
instance (a : Int × Int) : Decidable (badS a) := by unfold badS; exact inferInstance
def cmpT (a b : Int × Int) : Int × Int := if badS a ∨ badS b then (0, 1) else (cmpP a.1 b.2 b.1 a.2, 0)
/-- ablaut/ablautref27.Compare: 2 parameters, 0 captured -/
def s26 : SC := .seq (.reg [o1 2 (.box 27 2 (.t 0)),
   o1 3 (.box 27 2 (.t 1)),
   o1 4 (.mv (cI 0)),
   o1 5 (.mv (cI 0))])
  (.seq (.seq (.reg [o1 6 (.faddr 1 (.t 2)),
     o1 7 (.load none (.t 6)),
     o1 8 (.bin .lss (.t 7) (cI 1)),
     o1 9 (.mv (.t 8)),
     oF 10 (.faddr 1 (.t 3)) 9,
     oF 11 (.load none (.t 10)) 9,
     oF 12 (.bin .lss (.t 11) (cI 1)) 9,
     o1 13 (.pick (.t 9) (cB true) (.t 12)),
     o1 14 (.mv (.t 13)),
     oF 15 (.faddr 0 (.t 2)) 14,
     oF 16 (.load none (.t 15)) 14,
     oF 17 (.bin .lss (.t 16) (cI 0)) 14,
     o1 18 (.pick (.t 14) (cB true) (.t 17)),
     o1 19 (.mv (.t 18)),
     oF 20 (.faddr 0 (.t 3)) 19,
     oF 21 (.load none (.t 20)) 19,
     oF 22 (.bin .lss (.t 21) (cI 0)) 19,
     o1 23 (.pick (.t 19) (cB true) (.t 22)),
     o1 24 (.mv (.t 23)),
     oF 25 (.faddr 0 (.t 2)) 24,
     oF 26 (.load none (.t 25)) 24,
     oF 27 (.bin .gtr (.t 26) (cI 9007199254740992)) 24,
     o1 28 (.pick (.t 24) (cB true) (.t 27)),
     o1 29 (.mv (.t 28)),
     oF 30 (.faddr 0 (.t 3)) 29,
     oF 31 (.load none (.t 30)) 29,
     oF 32 (.bin .gtr (.t 31) (cI 9007199254740992)) 29,
     o1 33 (.pick (.t 29) (cB true) (.t 32)),
     o1 34 (.mv (.t 33)),
     oF 35 (.faddr 1 (.t 2)) 34,
     oF 36 (.load none (.t 35)) 34,
     oF 37 (.bin .gtr (.t 36) (cI 9007199254740992)) 34,
     o1 38 (.pick (.t 34) (cB true) (.t 37)),
     o1 39 (.mv (.t 38)),
     oF 40 (.faddr 1 (.t 3)) 39,
     oF 41 (.load none (.t 40)) 39,
     oF 42 (.bin .gtr (.t 41) (cI 9007199254740992)) 39,
     o1 43 (.pick (.t 39) (cB true) (.t 42))])
    (.cond (.t 43) (.seq (.reg [o1 4 (.mv (cI 0)),
       o1 5 (.mv (cI 1))])
      (.ret)) (.skip)))
   (.seq (.reg [o1 44 (.load (some 2) (.t 2)),
     o1 45 (.load (some 2) (.t 3)),
     o1 46 (.call (.f 60) [(.t 44), (.t 45)]),
     o1 4 (.mv (.t 46)),
     o1 5 (.mv (cI 0))])
    (.ret)))
theorem s26_ok : lookF Try.prog 26 = some (s26, 47, [.tmp 4, .tmp 5]) := by kernel_rfl
theorem rCompare_ok (a b : Int × Int) : Fn P 26 [frA a.1 a.2, frA b.1 b.2] (.tup [intA (cmpT a b).1, intA (cmpT a b).2]) := by
  have c1 := compared_ok a b
  by_cases h : badS a ∨ badS b
  · rw [cmpT, if_pos h]
    simp only [badS] at h
    (refine fn_look s26_ok (by simp) (by intro k; simp only [go_sem, Nat.reduceEqDiff, ↓reduceIte, reduceCtorEq, Nat.reduceAdd, Nat.reduceMul, Int.reduceToNat, List.reduceReplicate, Nat.reduceLeDiff, Nat.reduceLT, Int.reduceLT, Int.reduceLE, Int.reduceEq]) fun S hS => cwp_sound _ _ _ _ ?_; simp (maxSteps := 900000) (disch := omega) only [s26, go_sem, Nat.reduceEqDiff, ↓reduceIte, reduceCtorEq, Nat.reduceAdd, Nat.reduceMul, Int.reduceToNat, List.reduceReplicate, Nat.reduceLeDiff, Nat.reduceLT, Int.reduceLT, Int.reduceLE, Int.reduceEq])
    repeat' (first | with_reducible refine inw ?_ | simp (maxSteps := 900000) (disch := omega) only [go_sem, Nat.reduceEqDiff, ↓reduceIte, reduceCtorEq, Nat.reduceAdd, Nat.reduceMul, Int.reduceToNat, List.reduceReplicate, Nat.reduceLeDiff, Nat.reduceLT, Int.reduceLT, Int.reduceLE, Int.reduceEq] | (with_reducible apply call (c1)); (focus simp (maxSteps := 900000) (disch := omega) only [go_sem, Nat.reduceEqDiff, ↓reduceIte, reduceCtorEq, Nat.reduceAdd, Nat.reduceMul, Int.reduceToNat, List.reduceReplicate, Nat.reduceLeDiff, Nat.reduceLT, Int.reduceLT, Int.reduceLE, Int.reduceEq] <;> rfl) | with_reducible refine giv_intro fun _h => ?_ | with_reducible refine alt_intro ?_ fun _h => ?_ | with_reducible refine pickD_nil ?_ | (with_reducible refine brc (fun _h => ?_) fun _h => ?_) <;> first | (exfalso; omega) | simp only [decide_eq_false _h] | simp only [(_h : (_ : Bool) = _)] | simp only [decide_eq_true _h] | skip)
  · rw [cmpT, if_neg h]
    simp only [badS] at h
    (refine fn_look s26_ok (by simp) (by intro k; simp only [go_sem, Nat.reduceEqDiff, ↓reduceIte, reduceCtorEq, Nat.reduceAdd, Nat.reduceMul, Int.reduceToNat, List.reduceReplicate, Nat.reduceLeDiff, Nat.reduceLT, Int.reduceLT, Int.reduceLE, Int.reduceEq]) fun S hS => cwp_sound _ _ _ _ ?_; simp (maxSteps := 900000) (disch := omega) only [s26, go_sem, Nat.reduceEqDiff, ↓reduceIte, reduceCtorEq, Nat.reduceAdd, Nat.reduceMul, Int.reduceToNat, List.reduceReplicate, Nat.reduceLeDiff, Nat.reduceLT, Int.reduceLT, Int.reduceLE, Int.reduceEq])
    repeat' (first | with_reducible refine inw ?_ | simp (maxSteps := 900000) (disch := omega) only [go_sem, Nat.reduceEqDiff, ↓reduceIte, reduceCtorEq, Nat.reduceAdd, Nat.reduceMul, Int.reduceToNat, List.reduceReplicate, Nat.reduceLeDiff, Nat.reduceLT, Int.reduceLT, Int.reduceLE, Int.reduceEq] | (with_reducible apply call (c1)); (focus simp (maxSteps := 900000) (disch := omega) only [go_sem, Nat.reduceEqDiff, ↓reduceIte, reduceCtorEq, Nat.reduceAdd, Nat.reduceMul, Int.reduceToNat, List.reduceReplicate, Nat.reduceLeDiff, Nat.reduceLT, Int.reduceLT, Int.reduceLE, Int.reduceEq] <;> rfl) | with_reducible refine giv_intro fun _h => ?_ | with_reducible refine alt_intro ?_ fun _h => ?_ | with_reducible refine pickD_nil ?_ | (with_reducible refine brc (fun _h => ?_) fun _h => ?_) <;> first | (exfalso; omega) | simp only [decide_eq_false _h] | simp only [(_h : (_ : Bool) = _)] | simp only [decide_eq_true _h] | skip)
theorem z2_4 : zcells [Value.int .i64 0, Value.int .i64 0] 4 = [intA 0, intA 0, intA 0, intA 0] := rfl
/-- ablaut/tally.Compare: 2 parameters, 0 captured -/
def s25 : SC := .seq (.reg [o1 2 (.box 27 2 (.t 0)),
   o1 3 (.box 27 2 (.t 1)),
   o1 4 (.mv (cI 0)),
   o1 5 (.mv (cI 0))])
  (.seq (.seq (.reg [o1 8 (.load (some 2) (.t 2)),
     o1 9 (.load (some 2) (.t 3)),
     o1 10 (.buildSl 27 2 2 [(.int .i64 0), (.int .i64 0)] [(0, 2, (.t 8)), (2, 2, (.t 9))]),
     o1 11 (.lenL (.t 10)),
     o1 12 (.mv (cI 0))])
    (.block 0 (.loop (.seq (.reg [o1 13 (.bin .lss (.t 12) (.t 11))])
       (.seq (.cond (.t 13) (.skip) (.exit 0))
        (.seq (.block 1 (.seq (.reg [o1 14 (.iaddr 2 (.t 10) (.t 12)),
            o1 15 (.load (some 2) (.t 14)),
            o1 7 (.alloc 27 2 [(.int .i64 0), (.int .i64 0)]),
            o0 (.store 2 (.t 7) (.t 15))])
           (.seq (.reg [o1 16 (.faddr 1 (.t 7)),
             o1 17 (.load none (.t 16)),
             o1 18 (.bin .lss (.t 17) (cI 1)),
             o1 19 (.mv (.t 18)),
             oF 20 (.faddr 0 (.t 7)) 19,
             oF 21 (.load none (.t 20)) 19,
             oF 22 (.bin .lss (.t 21) (cI 0)) 19,
             o1 23 (.pick (.t 19) (cB true) (.t 22)),
             o1 24 (.mv (.t 23)),
             oF 25 (.faddr 0 (.t 7)) 24,
             oF 26 (.load none (.t 25)) 24,
             oF 27 (.bin .gtr (.t 26) (cI 9007199254740992)) 24,
             o1 28 (.pick (.t 24) (cB true) (.t 27)),
             o1 29 (.mv (.t 28)),
             oF 30 (.faddr 1 (.t 7)) 29,
             oF 31 (.load none (.t 30)) 29,
             oF 32 (.bin .gtr (.t 31) (cI 9007199254740992)) 29,
             o1 33 (.pick (.t 29) (cB true) (.t 32))])
            (.cond (.t 33) (.seq (.reg [o1 4 (.mv (cI 0)),
               o1 5 (.mv (cI 1))])
              (.ret)) (.skip)))))
         (.reg [o1 34 (.bin .add (.t 12) (cI 1)),
          o1 12 (.mv (.t 34))])))))))
   (.seq (.reg [o1 35 (.load (some 2) (.t 2)),
     o1 36 (.load (some 2) (.t 3)),
     o1 37 (.call (.f 59) [(.t 35), (.t 36)]),
     o1 4 (.mv (.t 37)),
     o1 5 (.mv (cI 0))])
    (.ret)))
theorem s25_ok : lookF Try.prog 25 = some (s25, 38, [.tmp 4, .tmp 5]) := by kernel_rfl
theorem Compare_ok (a b : Int × Int) : Fn P 25 [frA a.1 a.2, frA b.1 b.2] (.tup [intA (cmpT a b).1, intA (cmpT a b).2]) := by
  have c1 := compare_ok a b
  (refine fn_look s25_ok (by simp) (by intro k; simp only [go_sem, Nat.reduceEqDiff, ↓reduceIte, reduceCtorEq, Nat.reduceAdd, Nat.reduceMul, Int.reduceToNat, List.reduceReplicate, Nat.reduceLeDiff, Nat.reduceLT, Int.reduceLT, Int.reduceLE, Int.reduceEq]) fun S hS => cwp_sound _ _ _ _ ?_; simp (maxSteps := 900000) (disch := omega) only [s25, go_sem, Nat.reduceEqDiff, ↓reduceIte, reduceCtorEq, Nat.reduceAdd, Nat.reduceMul, Int.reduceToNat, List.reduceReplicate, Nat.reduceLeDiff, Nat.reduceLT, Int.reduceLT, Int.reduceLE, Int.reduceEq])
  repeat' (first | with_reducible refine inw ?_ | simp (maxSteps := 900000) (disch := omega) only [go_sem, Nat.reduceEqDiff, ↓reduceIte, reduceCtorEq, Nat.reduceAdd, Nat.reduceMul, Int.reduceToNat, List.reduceReplicate, Nat.reduceLeDiff, Nat.reduceLT, Int.reduceLT, Int.reduceLE, Int.reduceEq, z2_4] | with_reducible refine giv_intro fun _h => ?_ | with_reducible refine alt_intro ?_ fun _h => ?_ | with_reducible refine pickD_nil ?_ | (with_reducible refine brc (fun _h => ?_) fun _h => ?_) <;> first | (exfalso; omega) | simp only [decide_eq_false _h] | simp only [(_h : (_ : Bool) = _)] | simp only [decide_eq_true _h] | skip)
  (refine loopC hS [2, 3, 10, 11] (by simp only [go_sem, Nat.reduceEqDiff, ↓reduceIte, reduceCtorEq, Nat.reduceAdd, Nat.reduceMul, Int.reduceToNat, List.reduceReplicate, Nat.reduceLeDiff, Nat.reduceLT, Int.reduceLT, Int.reduceLE, Int.reduceEq]; try rfl) (fun (i : Nat) => [(12, intA i)]) (fun (i : Nat) => [rowO 27 [a], rowO 27 [b], rowO 27 [a, b]]) (fun (i : Nat) => i ≤ 2 ∧ (0 < i → ¬badS a) ∧ (1 < i → ¬badS b)) (fun (i : Nat) => 2 - i) (0) ?h02 ?hn2 ?rd2; case hn2 => (intro s; first | rfl | (rcases s with ⟨_, _⟩; rfl) | (rcases s with ⟨_, _, _⟩; rfl) | (rcases s with ⟨_, _, _, _⟩; rfl) | (rcases s with ⟨_, _, _, _, _⟩; rfl)))
  · simp (maxSteps := 900000) (disch := omega) only [go_sem, Nat.reduceEqDiff, ↓reduceIte, reduceCtorEq, Nat.reduceAdd, Nat.reduceMul, Int.reduceToNat, List.reduceReplicate, Nat.reduceLeDiff, Nat.reduceLT, Int.reduceLT, Int.reduceLE, Int.reduceEq]
  rintro i ⟨hi, ha, hb⟩
  replace hi : i ≤ 2 := hi
  have hbad : badS a ∨ badS b → cmpT a b = (0, 1) := fun h => by rw [cmpT, if_pos h]
  have hok : ¬(badS a ∨ badS b) → cmpT a b = (cmpP a.1 b.2 b.1 a.2, 0) := fun h => by rw [cmpT, if_neg h]
  rcases (show i = 0 ∨ i = 1 ∨ i = 2 by omega) with rfl | rfl | rfl
  · by_cases hA : badS a
    · rw [hbad (.inl hA)]
      simp only [badS] at hA
      repeat' (first | with_reducible refine inw ?_ | simp (maxSteps := 900000) (disch := omega) only [go_sem, Nat.reduceEqDiff, ↓reduceIte, reduceCtorEq, Nat.reduceAdd, Nat.reduceMul, Int.reduceToNat, List.reduceReplicate, Nat.reduceLeDiff, Nat.reduceLT, Int.reduceLT, Int.reduceLE, Int.reduceEq] | with_reducible refine giv_intro fun _h => ?_ | with_reducible refine alt_intro ?_ fun _h => ?_ | with_reducible refine pickD_nil ?_ | (with_reducible refine brc (fun _h => ?_) fun _h => ?_) <;> first | (exfalso; omega) | simp only [decide_eq_false _h] | simp only [(_h : (_ : Bool) = _)] | simp only [decide_eq_true _h] | skip)
    · have hA' := hA
      simp only [badS] at hA
      repeat' (first | with_reducible refine inw ?_ | simp (maxSteps := 900000) (disch := omega) only [go_sem, Nat.reduceEqDiff, ↓reduceIte, reduceCtorEq, Nat.reduceAdd, Nat.reduceMul, Int.reduceToNat, List.reduceReplicate, Nat.reduceLeDiff, Nat.reduceLT, Int.reduceLT, Int.reduceLE, Int.reduceEq] | with_reducible refine giv_intro fun _h => ?_ | with_reducible refine alt_intro ?_ fun _h => ?_ | with_reducible refine pickD_nil ?_ | (with_reducible refine brc (fun _h => ?_) fun _h => ?_) <;> first | (exfalso; omega) | simp only [decide_eq_false _h] | simp only [(_h : (_ : Bool) = _)] | simp only [decide_eq_true _h] | skip)
      exact ⟨1, ⟨by omega, by omega, fun _ => hA', fun h => by omega⟩, rfl⟩
  · replace ha : ¬badS a := ha (by omega)
    by_cases hB : badS b
    · rw [hbad (.inr hB)]
      simp only [badS] at hB
      repeat' (first | with_reducible refine inw ?_ | simp (maxSteps := 900000) (disch := omega) only [go_sem, Nat.reduceEqDiff, ↓reduceIte, reduceCtorEq, Nat.reduceAdd, Nat.reduceMul, Int.reduceToNat, List.reduceReplicate, Nat.reduceLeDiff, Nat.reduceLT, Int.reduceLT, Int.reduceLE, Int.reduceEq] | with_reducible refine giv_intro fun _h => ?_ | with_reducible refine alt_intro ?_ fun _h => ?_ | with_reducible refine pickD_nil ?_ | (with_reducible refine brc (fun _h => ?_) fun _h => ?_) <;> first | (exfalso; omega) | simp only [decide_eq_false _h] | simp only [(_h : (_ : Bool) = _)] | simp only [decide_eq_true _h] | skip)
    · have hB' := hB
      simp only [badS] at hB
      repeat' (first | with_reducible refine inw ?_ | simp (maxSteps := 900000) (disch := omega) only [go_sem, Nat.reduceEqDiff, ↓reduceIte, reduceCtorEq, Nat.reduceAdd, Nat.reduceMul, Int.reduceToNat, List.reduceReplicate, Nat.reduceLeDiff, Nat.reduceLT, Int.reduceLT, Int.reduceLE, Int.reduceEq] | with_reducible refine giv_intro fun _h => ?_ | with_reducible refine alt_intro ?_ fun _h => ?_ | with_reducible refine pickD_nil ?_ | (with_reducible refine brc (fun _h => ?_) fun _h => ?_) <;> first | (exfalso; omega) | simp only [decide_eq_false _h] | simp only [(_h : (_ : Bool) = _)] | simp only [decide_eq_true _h] | skip)
      exact ⟨2, ⟨by omega, by omega, fun _ => ha, fun _ => hB'⟩, rfl⟩
  · replace ha : ¬badS a := ha (by omega)
    replace hb : ¬badS b := hb (by omega)
    rw [hok (by rintro (h | h); exact ha h; exact hb h)]
    repeat' (first | with_reducible refine inw ?_ | simp (maxSteps := 900000) (disch := omega) only [go_sem, Nat.reduceEqDiff, ↓reduceIte, reduceCtorEq, Nat.reduceAdd, Nat.reduceMul, Int.reduceToNat, List.reduceReplicate, Nat.reduceLeDiff, Nat.reduceLT, Int.reduceLT, Int.reduceLE, Int.reduceEq] | (with_reducible apply call (c1)); (focus simp (maxSteps := 900000) (disch := omega) only [go_sem, Nat.reduceEqDiff, ↓reduceIte, reduceCtorEq, Nat.reduceAdd, Nat.reduceMul, Int.reduceToNat, List.reduceReplicate, Nat.reduceLeDiff, Nat.reduceLT, Int.reduceLT, Int.reduceLE, Int.reduceEq] <;> rfl) | with_reducible refine giv_intro fun _h => ?_ | with_reducible refine alt_intro ?_ fun _h => ?_ | with_reducible refine pickD_nil ?_ | (with_reducible refine brc (fun _h => ?_) fun _h => ?_) <;> first | (exfalso; omega) | simp only [decide_eq_false _h] | simp only [(_h : (_ : Bool) = _)] | simp only [decide_eq_true _h] | skip)
theorem cmpT_neg (a b : Int × Int) : cmpT b a = (-(cmpT a b).1, (cmpT a b).2) := by
  rw [cmpT, cmpT]
  by_cases h : badS a ∨ badS b
  · rw [if_pos h.symm, if_pos h]; rfl
  · rw [if_neg (fun q => h q.symm), if_neg h, cmpP_neg]
theorem cmpT_le (a b : Int × Int) : -1 ≤ (cmpT a b).1 ∧ (cmpT a b).1 ≤ 1 := by
  rw [cmpT]
  split
  · exact ⟨by decide, by decide⟩
  · exact cmpP_le _ _ _ _
/-- ablaut/ablautlaw27.TallyCompares: 2 parameters, 0 captured -/
def s5 : SC := .seq (.reg [o1 2 (.box 27 2 (.t 0)),
   o1 3 (.box 27 2 (.t 1)),
   o1 4 (.mv (cB false))])
  (.seq (.reg [o1 12 (.load (some 2) (.t 2)),
    o1 13 (.load (some 2) (.t 3)),
    o1 14 (.call (.f 25) [(.t 12), (.t 13)]),
    o1 11 (.mv (.t 14)),
    o1 15 (.ext (.t 11) 0),
    o1 16 (.ext (.t 11) 1),
    o1 5 (.mv (.t 15)),
    o1 6 (.mv (.t 16))])
   (.seq (.reg [o1 18 (.load (some 2) (.t 2)),
     o1 19 (.load (some 2) (.t 3)),
     o1 20 (.call (.f 26) [(.t 18), (.t 19)]),
     o1 17 (.mv (.t 20)),
     o1 21 (.ext (.t 17) 0),
     o1 22 (.ext (.t 17) 1),
     o1 7 (.mv (.t 21)),
     o1 8 (.mv (.t 22))])
    (.seq (.reg [o1 24 (.load (some 2) (.t 3)),
      o1 25 (.load (some 2) (.t 2)),
      o1 26 (.call (.f 25) [(.t 24), (.t 25)]),
      o1 23 (.mv (.t 26)),
      o1 27 (.ext (.t 23) 0),
      o1 28 (.ext (.t 23) 1),
      o1 9 (.mv (.t 27)),
      o1 10 (.mv (.t 28))])
     (.seq (.reg [o1 29 (.mv (.t 5)),
       o1 30 (.mv (.t 7)),
       o1 31 (.bin .eql (.t 29) (.t 30)),
       o1 32 (.mv (.t 31)),
       oT 33 (.mv (.t 6)) 32,
       oT 34 (.mv (.t 8)) 32,
       oT 35 (.bin .eql (.t 33) (.t 34)) 32,
       o1 36 (.pick (.t 32) (.t 35) (cB false)),
       o1 37 (.mv (.t 36)),
       oT 38 (.mv (.t 9)) 37,
       oT 39 (.mv (.t 5)) 37,
       oT 40 (.un .neg (.t 39)) 37,
       oT 41 (.bin .eql (.t 38) (.t 40)) 37,
       o1 42 (.pick (.t 37) (.t 41) (cB false)),
       o1 43 (.mv (.t 42)),
       oT 44 (.mv (.t 10)) 43,
       oT 45 (.mv (.t 6)) 43,
       oT 46 (.bin .eql (.t 44) (.t 45)) 43,
       o1 47 (.pick (.t 43) (.t 46) (cB false)),
       o1 48 (.mv (.t 47)),
       oT 49 (.call (.f 17) []) 48,
       o1 50 (.pick (.t 48) (.t 49) (cB false)),
       o1 4 (.mv (.t 50))])
      (.ret)))))
theorem s5_ok : lookF Try.prog 5 = some (s5, 51, [.tmp 4]) := by kernel_rfl
theorem TallyCompares_ok (a b : Int × Int) : Fn P 5 [frA a.1 a.2, frA b.1 b.2] (boolA true) := by
  have c1 := Compare_ok a b
  have c2 := rCompare_ok a b
  have c3 := Compare_ok b a
  have hl := cmpT_le a b
  rw [cmpT_neg a b] at c3
  generalize cmpT a b = r at *
  (refine fn_look s5_ok (by simp) (by intro k; simp only [go_sem, Nat.reduceEqDiff, ↓reduceIte, reduceCtorEq, Nat.reduceAdd, Nat.reduceMul, Int.reduceToNat, List.reduceReplicate, Nat.reduceLeDiff, Nat.reduceLT, Int.reduceLT, Int.reduceLE, Int.reduceEq]) fun S hS => cwp_sound _ _ _ _ ?_; simp (maxSteps := 900000) (disch := omega) only [s5, go_sem, Nat.reduceEqDiff, ↓reduceIte, reduceCtorEq, Nat.reduceAdd, Nat.reduceMul, Int.reduceToNat, List.reduceReplicate, Nat.reduceLeDiff, Nat.reduceLT, Int.reduceLT, Int.reduceLE, Int.reduceEq])
  repeat' (first | with_reducible refine inw ?_ | simp (maxSteps := 900000) (disch := omega) only [go_sem, Nat.reduceEqDiff, ↓reduceIte, reduceCtorEq, Nat.reduceAdd, Nat.reduceMul, Int.reduceToNat, List.reduceReplicate, Nat.reduceLeDiff, Nat.reduceLT, Int.reduceLT, Int.reduceLE, Int.reduceEq] | (with_reducible apply call (c1)); (focus simp (maxSteps := 900000) (disch := omega) only [go_sem, Nat.reduceEqDiff, ↓reduceIte, reduceCtorEq, Nat.reduceAdd, Nat.reduceMul, Int.reduceToNat, List.reduceReplicate, Nat.reduceLeDiff, Nat.reduceLT, Int.reduceLT, Int.reduceLE, Int.reduceEq] <;> rfl) | (with_reducible apply call (c2)); (focus simp (maxSteps := 900000) (disch := omega) only [go_sem, Nat.reduceEqDiff, ↓reduceIte, reduceCtorEq, Nat.reduceAdd, Nat.reduceMul, Int.reduceToNat, List.reduceReplicate, Nat.reduceLeDiff, Nat.reduceLT, Int.reduceLT, Int.reduceLE, Int.reduceEq] <;> rfl) | (with_reducible apply call (c3)); (focus simp (maxSteps := 900000) (disch := omega) only [go_sem, Nat.reduceEqDiff, ↓reduceIte, reduceCtorEq, Nat.reduceAdd, Nat.reduceMul, Int.reduceToNat, List.reduceReplicate, Nat.reduceLeDiff, Nat.reduceLT, Int.reduceLT, Int.reduceLE, Int.reduceEq] <;> rfl) | (with_reducible apply call (known_ok)); (focus simp (maxSteps := 900000) (disch := omega) only [go_sem, Nat.reduceEqDiff, ↓reduceIte, reduceCtorEq, Nat.reduceAdd, Nat.reduceMul, Int.reduceToNat, List.reduceReplicate, Nat.reduceLeDiff, Nat.reduceLT, Int.reduceLT, Int.reduceLE, Int.reduceEq] <;> rfl) | with_reducible refine giv_intro fun _h => ?_ | with_reducible refine alt_intro ?_ fun _h => ?_ | with_reducible refine pickD_nil ?_ | (with_reducible refine brc (fun _h => ?_) fun _h => ?_) <;> first | (exfalso; omega) | simp only [decide_eq_false _h] | simp only [(_h : (_ : Bool) = _)] | simp only [decide_eq_true _h] | skip)
end Go.Proofs.Ytedbjmonfbpefaa.Ev

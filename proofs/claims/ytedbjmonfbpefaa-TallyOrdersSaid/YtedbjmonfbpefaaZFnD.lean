/- Tables of four: how likely. -/
import Derived.Test.YtedbjmonfbpefaaZFnC
set_option linter.unusedVariables false
set_option linter.unusedSimpArgs false
namespace Go.Proofs.Ytedbjmonfbpefaa.Ev
open Go Go.Proofs

abbrev tabI (a b c d : Int) : AV := .agg [intA a, intA b, intA c, intA d]
def OkT (a b c d : Int) : Prop := 0 ≤ a ∧ 0 ≤ b ∧ 0 ≤ c ∧ 0 ≤ d ∧ a + b + c + d ≤ 40
instance (a b c d : Int) : Decidable (OkT a b c d) := by unfold OkT; infer_instance
def bad (a b c d : Int) : Int := if OkT a b c d then 0 else 1
theorem bad_0 {a b c d : Int} (h : OkT a b c d) : bad a b c d = 0 := if_pos h
theorem bad_1 {a b c d : Int} (h : ¬ OkT a b c d) : bad a b c d = 1 := if_neg h
def pre4 (a b c d : Int) : Nat → Int
  | 0 => 0
  | 1 => a
  | 2 => a + b
  | 3 => a + b + c
  | _ => a + b + c + d
/-- ablaut/tally.four: 1 parameters, 0 captured -/
def s47 : SC := .seq (.reg [o1 1 (.box 22 4 (.t 0)),
   o1 2 (.mv (cI 0))])
  (.seq (.reg [o1 3 (.mv (cI 0))])
   (.seq (.seq (.reg [o1 6 (.load (some 4) (.t 1)),
      o1 7 (.mv (cI 0))])
     (.block 0 (.loop (.seq (.reg [o1 8 (.bin .lss (.t 7) (cI 4))])
        (.seq (.cond (.t 8) (.skip) (.exit 0))
         (.seq (.block 1 (.seq (.reg [o1 9 (.ixa 4 1 false (.t 6) (.t 7)),
             o1 5 (.mv (.t 9))])
            (.seq (.seq (.reg [o1 10 (.mv (.t 5)),
               o1 11 (.bin .lss (.t 10) (cI 0)),
               o1 12 (.mv (.t 11)),
               oF 13 (.mv (.t 5)) 12,
               oF 14 (.bin .gtr (.t 13) (cI 40)) 12,
               o1 15 (.pick (.t 12) (cB true) (.t 14))])
              (.cond (.t 15) (.seq (.reg [o1 2 (.mv (cI 1))])
                (.ret)) (.skip)))
             (.reg [o1 16 (.mv (.t 3)),
              o1 17 (.mv (.t 5)),
              o1 18 (.bin .add (.t 16) (.t 17)),
              o1 3 (.mv (.t 18))]))))
          (.reg [o1 19 (.bin .add (.t 7) (cI 1)),
           o1 7 (.mv (.t 19))])))))))
    (.seq (.seq (.reg [o1 20 (.mv (.t 3)),
       o1 21 (.bin .gtr (.t 20) (cI 40))])
      (.cond (.t 21) (.seq (.reg [o1 2 (.mv (cI 1))])
        (.ret)) (.skip)))
     (.seq (.reg [o1 2 (.mv (cI 0))])
      (.ret)))))
theorem s47_ok : lookF Try.prog 47 = some (s47, 22, [.tmp 2]) := by kernel_rfl
theorem four_ok (a b c d : Int) : Fn P 47 [tabI a b c d] (intA (bad a b c d)) := by
  (refine fn_look s47_ok (by simp) (by intro k; simp only [go_sem, Nat.reduceEqDiff, ↓reduceIte, reduceCtorEq, Nat.reduceAdd, Nat.reduceMul, Int.reduceToNat, List.reduceReplicate, Nat.reduceLeDiff, Nat.reduceLT, Int.reduceLT, Int.reduceLE, Int.reduceEq]) fun S hS => cwp_sound _ _ _ _ ?_; simp (maxSteps := 900000) (disch := omega) only [s47, go_sem, Nat.reduceEqDiff, ↓reduceIte, reduceCtorEq, Nat.reduceAdd, Nat.reduceMul, Int.reduceToNat, List.reduceReplicate, Nat.reduceLeDiff, Nat.reduceLT, Int.reduceLT, Int.reduceLE, Int.reduceEq])
  repeat' (first | with_reducible refine inw ?_ | simp (maxSteps := 900000) (disch := omega) only [go_sem, Nat.reduceEqDiff, ↓reduceIte, reduceCtorEq, Nat.reduceAdd, Nat.reduceMul, Int.reduceToNat, List.reduceReplicate, Nat.reduceLeDiff, Nat.reduceLT, Int.reduceLT, Int.reduceLE, Int.reduceEq] | with_reducible refine pickB_f ?_ | with_reducible refine giv_intro fun _h => ?_ | with_reducible refine alt_intro ?_ fun _h => ?_ | with_reducible refine pickD_nil ?_ | (with_reducible refine brc (fun _h => ?_) fun _h => ?_) <;> first | (exfalso; omega) | simp only [decide_eq_false _h] | simp only [(_h : (_ : Bool) = _)] | simp only [decide_eq_true _h] | skip)
  (refine loopC hS [6] (by simp only [go_sem, Nat.reduceEqDiff, ↓reduceIte, reduceCtorEq, Nat.reduceAdd, Nat.reduceMul, Int.reduceToNat, List.reduceReplicate, Nat.reduceLeDiff, Nat.reduceLT, Int.reduceLT, Int.reduceLE, Int.reduceEq]; try rfl) (fun (i : Nat) => [(3, intA (pre4 a b c d i)), (7, intA i)]) (fun (i : Nat) => [none]) (fun (i : Nat) => i ≤ 4 ∧ (i = 0 ∨ (0 ≤ a ∧ a ≤ 40)) ∧ (i ≤ 1 ∨ (0 ≤ b ∧ b ≤ 40)) ∧ (i ≤ 2 ∨ (0 ≤ c ∧ c ≤ 40)) ∧ (i ≤ 3 ∨ (0 ≤ d ∧ d ≤ 40))) (fun (i : Nat) => 4 - i) (0) ?_ (by intro s; first | rfl | (rcases s with ⟨_, _⟩; rfl) | (rcases s with ⟨_, _, _⟩; rfl) | (rcases s with ⟨_, _, _, _⟩; rfl) | (rcases s with ⟨_, _, _, _, _⟩; rfl)) ?_)
  · simp (maxSteps := 900000) (disch := omega) only [go_sem, Nat.reduceEqDiff, ↓reduceIte, reduceCtorEq, Nat.reduceAdd, Nat.reduceMul, Int.reduceToNat, List.reduceReplicate, Nat.reduceLeDiff, Nat.reduceLT, Int.reduceLT, Int.reduceLE, Int.reduceEq]; simp [pre4]
  · rintro i ⟨h0, h1, h2, h3, h4⟩
    replace h0 : i ≤ 4 := h0
    replace h1 : i = 0 ∨ (0 ≤ a ∧ a ≤ 40) := h1
    replace h2 : i ≤ 1 ∨ (0 ≤ b ∧ b ≤ 40) := h2
    replace h3 : i ≤ 2 ∨ (0 ≤ c ∧ c ≤ 40) := h3
    replace h4 : i ≤ 3 ∨ (0 ≤ d ∧ d ≤ 40) := h4
    have hi : i = 0 ∨ i = 1 ∨ i = 2 ∨ i = 3 ∨ i = 4 := by omega
    rcases hi with rfl | rfl | rfl | rfl | rfl <;> simp only [pre4]
    · repeat' (first | with_reducible refine inw ?_ | simp (maxSteps := 900000) (disch := omega) only [go_sem, Nat.reduceEqDiff, ↓reduceIte, reduceCtorEq, Nat.reduceAdd, Nat.reduceMul, Int.reduceToNat, List.reduceReplicate, Nat.reduceLeDiff, Nat.reduceLT, Int.reduceLT, Int.reduceLE, Int.reduceEq] | with_reducible refine pickB_f ?_ | with_reducible refine giv_intro fun _h => ?_ | with_reducible refine alt_intro ?_ fun _h => ?_ | with_reducible refine pickD_nil ?_ | (with_reducible refine brc (fun _h => ?_) fun _h => ?_) <;> first | (exfalso; omega) | simp only [decide_eq_false _h] | simp only [(_h : (_ : Bool) = _)] | simp only [decide_eq_true _h] | skip)
      · rw [bad_1 (by unfold OkT; omega)]
      · rw [bad_1 (by unfold OkT; omega)]
      · exact ⟨1, ⟨by omega, by omega, by omega, by omega, by omega, by omega⟩, by simp, rfl⟩
    · repeat' (first | with_reducible refine inw ?_ | simp (maxSteps := 900000) (disch := omega) only [go_sem, Nat.reduceEqDiff, ↓reduceIte, reduceCtorEq, Nat.reduceAdd, Nat.reduceMul, Int.reduceToNat, List.reduceReplicate, Nat.reduceLeDiff, Nat.reduceLT, Int.reduceLT, Int.reduceLE, Int.reduceEq] | with_reducible refine pickB_f ?_ | with_reducible refine giv_intro fun _h => ?_ | with_reducible refine alt_intro ?_ fun _h => ?_ | with_reducible refine pickD_nil ?_ | (with_reducible refine brc (fun _h => ?_) fun _h => ?_) <;> first | (exfalso; omega) | simp only [decide_eq_false _h] | simp only [(_h : (_ : Bool) = _)] | simp only [decide_eq_true _h] | skip)
      · rw [bad_1 (by unfold OkT; omega)]
      · rw [bad_1 (by unfold OkT; omega)]
      · exact ⟨2, ⟨by omega, by omega, by omega, by omega, by omega, by omega⟩, by simp, rfl⟩
    · repeat' (first | with_reducible refine inw ?_ | simp (maxSteps := 900000) (disch := omega) only [go_sem, Nat.reduceEqDiff, ↓reduceIte, reduceCtorEq, Nat.reduceAdd, Nat.reduceMul, Int.reduceToNat, List.reduceReplicate, Nat.reduceLeDiff, Nat.reduceLT, Int.reduceLT, Int.reduceLE, Int.reduceEq] | with_reducible refine pickB_f ?_ | with_reducible refine giv_intro fun _h => ?_ | with_reducible refine alt_intro ?_ fun _h => ?_ | with_reducible refine pickD_nil ?_ | (with_reducible refine brc (fun _h => ?_) fun _h => ?_) <;> first | (exfalso; omega) | simp only [decide_eq_false _h] | simp only [(_h : (_ : Bool) = _)] | simp only [decide_eq_true _h] | skip)
      · rw [bad_1 (by unfold OkT; omega)]
      · rw [bad_1 (by unfold OkT; omega)]
      · exact ⟨3, ⟨by omega, by omega, by omega, by omega, by omega, by omega⟩, by simp, rfl⟩
    · repeat' (first | with_reducible refine inw ?_ | simp (maxSteps := 900000) (disch := omega) only [go_sem, Nat.reduceEqDiff, ↓reduceIte, reduceCtorEq, Nat.reduceAdd, Nat.reduceMul, Int.reduceToNat, List.reduceReplicate, Nat.reduceLeDiff, Nat.reduceLT, Int.reduceLT, Int.reduceLE, Int.reduceEq] | with_reducible refine pickB_f ?_ | with_reducible refine giv_intro fun _h => ?_ | with_reducible refine alt_intro ?_ fun _h => ?_ | with_reducible refine pickD_nil ?_ | (with_reducible refine brc (fun _h => ?_) fun _h => ?_) <;> first | (exfalso; omega) | simp only [decide_eq_false _h] | simp only [(_h : (_ : Bool) = _)] | simp only [decide_eq_true _h] | skip)
      · rw [bad_1 (by unfold OkT; omega)]
      · rw [bad_1 (by unfold OkT; omega)]
      · exact ⟨4, ⟨by omega, by omega, by omega, by omega, by omega, by omega⟩, by simp, rfl⟩
    · repeat' (first | with_reducible refine inw ?_ | simp (maxSteps := 900000) (disch := omega) only [go_sem, Nat.reduceEqDiff, ↓reduceIte, reduceCtorEq, Nat.reduceAdd, Nat.reduceMul, Int.reduceToNat, List.reduceReplicate, Nat.reduceLeDiff, Nat.reduceLT, Int.reduceLT, Int.reduceLE, Int.reduceEq] | with_reducible refine pickB_f ?_ | with_reducible refine giv_intro fun _h => ?_ | with_reducible refine alt_intro ?_ fun _h => ?_ | with_reducible refine pickD_nil ?_ | (with_reducible refine brc (fun _h => ?_) fun _h => ?_) <;> first | (exfalso; omega) | simp only [decide_eq_false _h] | simp only [(_h : (_ : Bool) = _)] | simp only [decide_eq_true _h] | skip)
      · rw [bad_1 (by unfold OkT; omega)]
      · rw [bad_0 (by unfold OkT; omega)]

/-- ablaut/tally.share: 2 parameters, 0 captured -/
def s49 : SC := .seq (.reg [o1 4 (.alloc 27 2 [(.int .i64 0), (.int .i64 0)])])
  (.seq (.reg [o1 6 (.mv (.t 0)),
    o1 7 (.mv (.t 1)),
    o1 8 (.build [(.int .i64 0), (.int .i64 0)] [(0, 1, (.t 6)), (1, 1, (.t 7))]),
    o1 9 (.call (.f 103) [(.t 8)]),
    o1 5 (.alloc 124 2 [(.int .i64 0), (.int .i64 0)]),
    o0 (.store 2 (.t 5) (.t 9))])
   (.seq (.reg [o1 10 (.faddr 0 (.t 5)),
     o1 11 (.load none (.t 10)),
     o1 12 (.faddr 1 (.t 5)),
     o1 13 (.load none (.t 12)),
     o1 14 (.build [(.int .i64 0), (.int .i64 0)] [(0, 1, (.t 11)), (1, 1, (.t 13))]),
     o0 (.store 2 (.t 4) (.t 14))])
    (.ret)))
theorem s49_ok : lookF Try.prog 49 = some (s49, 15, [.cell 4 (some 2)]) := by kernel_rfl
theorem share_ok (x y : Nat) (h : 0 < Nat.gcd x y) (hx : x ≤ 9223372036854775807) (hy : y ≤ 9223372036854775807) : Fn P 49 [intA x, intA y] (frA ((x / Nat.gcd x y : Nat) : Int) ((y / Nat.gcd x y : Nat) : Int)) := by
  have hc := partLeast_ok x y h hx hy
  (refine fn_look s49_ok (by simp) (by intro k; simp only [go_sem, Nat.reduceEqDiff, ↓reduceIte, reduceCtorEq, Nat.reduceAdd, Nat.reduceMul, Int.reduceToNat, List.reduceReplicate, Nat.reduceLeDiff, Nat.reduceLT, Int.reduceLT, Int.reduceLE, Int.reduceEq]) fun S hS => cwp_sound _ _ _ _ ?_; simp (maxSteps := 900000) (disch := omega) only [s49, go_sem, Nat.reduceEqDiff, ↓reduceIte, reduceCtorEq, Nat.reduceAdd, Nat.reduceMul, Int.reduceToNat, List.reduceReplicate, Nat.reduceLeDiff, Nat.reduceLT, Int.reduceLT, Int.reduceLE, Int.reduceEq])
  repeat' (first | with_reducible refine inw ?_ | simp (maxSteps := 900000) (disch := omega) only [go_sem, Nat.reduceEqDiff, ↓reduceIte, reduceCtorEq, Nat.reduceAdd, Nat.reduceMul, Int.reduceToNat, List.reduceReplicate, Nat.reduceLeDiff, Nat.reduceLT, Int.reduceLT, Int.reduceLE, Int.reduceEq] | (with_reducible apply call (hc)); (focus simp (maxSteps := 900000) (disch := omega) only [go_sem, Nat.reduceEqDiff, ↓reduceIte, reduceCtorEq, Nat.reduceAdd, Nat.reduceMul, Int.reduceToNat, List.reduceReplicate, Nat.reduceLeDiff, Nat.reduceLT, Int.reduceLT, Int.reduceLE, Int.reduceEq] <;> rfl) | with_reducible refine pickB_f ?_ | with_reducible refine giv_intro fun _h => ?_ | with_reducible refine alt_intro ?_ fun _h => ?_ | with_reducible refine pickD_nil ?_ | (with_reducible refine brc (fun _h => ?_) fun _h => ?_) <;> first | (exfalso; omega) | simp only [decide_eq_false _h] | simp only [(_h : (_ : Bool) = _)] | simp only [decide_eq_true _h] | skip)

/-- In how many ways. -/
def exW (a b c d : Nat) : Nat := bin (a + b) a * bin (c + d) c
def allW (a b c d : Nat) : Nat := bin (a + b + c + d) (a + c)
/-- ablaut/tally.Exact: 1 parameters, 0 captured -/
def s16 : SC := .seq (.reg [o1 1 (.box 22 4 (.t 0)),
   o1 2 (.alloc 27 2 [(.int .i64 0), (.int .i64 0)]),
   o1 3 (.mv (cI 0))])
  (.seq (.seq (.reg [o1 5 (.load (some 4) (.t 1)),
     o1 6 (.call (.f 47) [(.t 5)]),
     o1 4 (.mv (.t 6))])
    (.seq (.reg [o1 7 (.mv (.t 4)),
      o1 8 (.bin .neq (.t 7) (cI 0))])
     (.cond (.t 8) (.seq (.reg [o1 9 (.build [(.int .i64 0), (.int .i64 0)] []),
        o1 10 (.mv (.t 4)),
        o0 (.store 2 (.t 2) (.t 9)),
        o1 3 (.mv (.t 10))])
       (.ret)) (.skip))))
   (.seq (.reg [o1 11 (.load (some 4) (.t 1)),
     o1 12 (.call (.f 50) [(.t 11)]),
     o1 13 (.ext (.t 12) 0),
     o1 14 (.ext (.t 12) 1),
     o1 15 (.call (.f 49) [(.t 13), (.t 14)]),
     o0 (.store 2 (.t 2) (.t 15)),
     o1 3 (.mv (cI 0))])
    (.ret)))
theorem s16_ok : lookF Try.prog 16 = some (s16, 16, [.cell 2 (some 2), .tmp 3]) := by kernel_rfl
theorem exact_ok (a b c d : Nat) (h : a + b + c + d ≤ 40) (hg : exW a b c d ≤ 9223372036854775807) (ha : allW a b c d ≤ 9223372036854775807) (hp : 0 < allW a b c d) : Fn P 16 [tabA a b c d] (.tup [frA ((exW a b c d / Nat.gcd (exW a b c d) (allW a b c d) : Nat) : Int) ((allW a b c d / Nat.gcd (exW a b c d) (allW a b c d) : Nat) : Int), intA 0]) := by
  have c1 := four_ok a b c d
  rw [bad_0 (by unfold OkT; omega)] at c1
  have c2 := tables_ok a b c d h
  have c3 := share_ok (exW a b c d) (allW a b c d) (Nat.gcd_pos_of_pos_right _ hp) hg ha
  (refine fn_look s16_ok (by simp) (by intro k; simp only [go_sem, Nat.reduceEqDiff, ↓reduceIte, reduceCtorEq, Nat.reduceAdd, Nat.reduceMul, Int.reduceToNat, List.reduceReplicate, Nat.reduceLeDiff, Nat.reduceLT, Int.reduceLT, Int.reduceLE, Int.reduceEq]) fun S hS => cwp_sound _ _ _ _ ?_; simp (maxSteps := 900000) (disch := omega) only [s16, go_sem, Nat.reduceEqDiff, ↓reduceIte, reduceCtorEq, Nat.reduceAdd, Nat.reduceMul, Int.reduceToNat, List.reduceReplicate, Nat.reduceLeDiff, Nat.reduceLT, Int.reduceLT, Int.reduceLE, Int.reduceEq])
  repeat' (first | with_reducible refine inw ?_ | simp (maxSteps := 900000) (disch := omega) only [go_sem, Nat.reduceEqDiff, ↓reduceIte, reduceCtorEq, Nat.reduceAdd, Nat.reduceMul, Int.reduceToNat, List.reduceReplicate, Nat.reduceLeDiff, Nat.reduceLT, Int.reduceLT, Int.reduceLE, Int.reduceEq] | (with_reducible apply call (c1)); (focus simp (maxSteps := 900000) (disch := omega) only [go_sem, Nat.reduceEqDiff, ↓reduceIte, reduceCtorEq, Nat.reduceAdd, Nat.reduceMul, Int.reduceToNat, List.reduceReplicate, Nat.reduceLeDiff, Nat.reduceLT, Int.reduceLT, Int.reduceLE, Int.reduceEq] <;> rfl) | (with_reducible apply call (c2)); (focus simp (maxSteps := 900000) (disch := omega) only [go_sem, Nat.reduceEqDiff, ↓reduceIte, reduceCtorEq, Nat.reduceAdd, Nat.reduceMul, Int.reduceToNat, List.reduceReplicate, Nat.reduceLeDiff, Nat.reduceLT, Int.reduceLT, Int.reduceLE, Int.reduceEq] <;> rfl) | (with_reducible apply call (c3)); (focus simp (maxSteps := 900000) (disch := omega) only [go_sem, Nat.reduceEqDiff, ↓reduceIte, reduceCtorEq, Nat.reduceAdd, Nat.reduceMul, Int.reduceToNat, List.reduceReplicate, Nat.reduceLeDiff, Nat.reduceLT, Int.reduceLT, Int.reduceLE, Int.reduceEq] <;> rfl) | with_reducible refine pickB_f ?_ | with_reducible refine giv_intro fun _h => ?_ | with_reducible refine alt_intro ?_ fun _h => ?_ | with_reducible refine pickD_nil ?_ | (with_reducible refine brc (fun _h => ?_) fun _h => ?_) <;> first | (exfalso; omega) | simp only [decide_eq_false _h] | simp only [(_h : (_ : Bool) = _)] | simp only [decide_eq_true _h] | skip)
end Go.Proofs.Ytedbjmonfbpefaa.Ev

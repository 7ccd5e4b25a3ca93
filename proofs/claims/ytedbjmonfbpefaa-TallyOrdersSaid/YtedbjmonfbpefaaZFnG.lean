/- Tables of four: how likely or more so. -/
import Derived.Test.YtedbjmonfbpefaaZFnE
set_option linter.unusedVariables false
set_option linter.unusedSimpArgs false
namespace Go.Proofs.Ytedbjmonfbpefaa.Ev
open Go Go.Proofs

theorem exW_le (a b c d : Nat) (h : a + b + c + d ≤ 40) : exW a b c d ≤ 2 ^ 40 := by
  have h1 := bin_le (a + b) a
  have h2 := bin_le (c + d) c
  have hm := Nat.mul_le_mul h1 h2
  rw [← Nat.pow_add] at hm
  have hp : 2 ^ (a + b + (c + d)) ≤ 2 ^ 40 := Nat.pow_le_pow_right (by omega) (by omega)
  exact Nat.le_trans hm hp
theorem allW_le (a b c d : Nat) (h : a + b + c + d ≤ 40) : allW a b c d ≤ 2 ^ 40 :=
  Nat.le_trans (bin_le _ _) (Nat.pow_le_pow_right (by omega) h)
theorem allW_pos (a b c d : Nat) : 0 < allW a b c d := bin_pos _ _ (by omega)
theorem sumN_le {T : Nat → Nat} {M : Nat} : ∀ j, (∀ i, i < j → T i ≤ M) → sumN T j ≤ j * M
  | 0, _ => by simp [sumN]
  | j + 1, h => by
    have h1 := sumN_le j fun i hi => h i (by omega)
    have h2 := h j (by omega)
    rw [sumN, Nat.succ_mul]; omega
theorem tlT_le (a b c d j : Nat) (h : a + b + c + d ≤ 40) (hj : j ≤ min b c) : tlT a b c d j ≤ 2 ^ 40 := exW_le _ _ _ _ (by omega)
theorem tlS_le (a b c d j : Nat) (h : a + b + c + d ≤ 40) (hj : j ≤ min b c + 1) : sumN (tlT a b c d) j ≤ 41 * 2 ^ 40 :=
  Nat.le_trans (sumN_le j fun i hi => tlT_le a b c d i h (by omega)) (Nat.mul_le_mul_right _ (by omega))
theorem tlW_le (a b c d : Nat) (h : a + b + c + d ≤ 40) : tlW a b c d ≤ 41 * 2 ^ 40 := tlS_le _ _ _ _ _ h (by omega)

/-- ablaut/tally.tail: 1 parameters, 0 captured -/
def s48 : SC := .seq (.reg [o1 1 (.box 22 4 (.t 0)),
   o1 2 (.alloc 27 2 [(.int .i64 0), (.int .i64 0)])])
  (.seq (.reg [o1 3 (.mv (cI 0))])
   (.seq (.reg [o1 9 (.load (some 4) (.t 1)),
     o1 10 (.call (.f 50) [(.t 9)]),
     o1 8 (.mv (.t 10)),
     o1 11 (.ext (.t 8) 0),
     o1 12 (.ext (.t 8) 1),
     o1 4 (.mv (.t 11)),
     o1 5 (.mv (.t 12))])
    (.seq (.block 0 (.loop (.seq (.seq (.reg [o1 13 (.iaddrA 4 1 (.t 1) (cI 1)),
          o1 14 (.load none (.t 13)),
          o1 15 (.bin .geq (.t 14) (cI 0)),
          o1 16 (.mv (.t 15)),
          oT 17 (.iaddrA 4 1 (.t 1) (cI 2)) 16,
          oT 18 (.load none (.t 17)) 16,
          oT 19 (.bin .geq (.t 18) (cI 0)) 16,
          o1 20 (.pick (.t 16) (.t 19) (cB false))])
         (.cond (.t 20) (.skip) (.exit 0)))
        (.seq (.block 1 (.seq (.reg [o1 35 (.load (some 4) (.t 1)),
            o1 36 (.call (.f 50) [(.t 35)]),
            o1 34 (.mv (.t 36)),
            o1 37 (.ext (.t 34) 0),
            o1 38 (.ext (.t 34) 1),
            o1 6 (.mv (.t 37)),
            o1 7 (.mv (.t 38))])
           (.reg [o1 39 (.mv (.t 3)),
            o1 40 (.mv (.t 6)),
            o1 41 (.bin .add (.t 39) (.t 40)),
            o1 3 (.mv (.t 41))])))
         (.reg [o1 21 (.iaddrA 4 1 (.t 1) (cI 0)),
          o1 22 (.load none (.t 21)),
          o1 23 (.bin .add (.t 22) (cI 1)),
          o1 24 (.iaddrA 4 1 (.t 1) (cI 1)),
          o1 25 (.load none (.t 24)),
          o1 26 (.bin .sub (.t 25) (cI 1)),
          o1 27 (.iaddrA 4 1 (.t 1) (cI 2)),
          o1 28 (.load none (.t 27)),
          o1 29 (.bin .sub (.t 28) (cI 1)),
          o1 30 (.iaddrA 4 1 (.t 1) (cI 3)),
          o1 31 (.load none (.t 30)),
          o1 32 (.bin .add (.t 31) (cI 1)),
          o1 33 (.build [(.int .i64 0), (.int .i64 0), (.int .i64 0), (.int .i64 0)] [(0, 1, (.t 23)), (1, 1, (.t 26)), (2, 1, (.t 29)), (3, 1, (.t 32))]),
          o0 (.store 4 (.t 1) (.t 33))])))))
     (.seq (.reg [o1 42 (.mv (.t 3)),
       o1 43 (.mv (.t 5)),
       o1 44 (.call (.f 49) [(.t 42), (.t 43)]),
       o0 (.store 2 (.t 2) (.t 44))])
      (.ret)))))
theorem s48_ok : lookF Try.prog 48 = some (s48, 45, [.cell 2 (some 2)]) := by kernel_rfl
theorem tail_ok (a b c d : Nat) (h : a + b + c + d ≤ 40) : Fn P 48 [tabA a b c d] (frA ((tlW a b c d / Nat.gcd (tlW a b c d) (allW a b c d) : Nat) : Int) ((allW a b c d / Nat.gcd (tlW a b c d) (allW a b c d) : Nat) : Int)) := by
  have c2 := tables_ok a b c d h
  have hal := allW_le a b c d h
  have htl := tlW_le a b c d h
  have c3 := share_ok (tlW a b c d) (allW a b c d) (Nat.gcd_pos_of_pos_right _ (allW_pos a b c d)) (by omega) (by omega)
  change Fn P _ _ (.tup [intA (exW a b c d : Nat), intA (allW a b c d : Nat)]) at c2
  (refine fn_look s48_ok (by simp) (by intro k; simp only [go_sem, Nat.reduceEqDiff, ↓reduceIte, reduceCtorEq, Nat.reduceAdd, Nat.reduceMul, Int.reduceToNat, List.reduceReplicate, Nat.reduceLeDiff, Nat.reduceLT, Int.reduceLT, Int.reduceLE, Int.reduceEq]) fun S hS => cwp_sound _ _ _ _ ?_; simp (maxSteps := 900000) (disch := omega) only [s48, go_sem, Nat.reduceEqDiff, ↓reduceIte, reduceCtorEq, Nat.reduceAdd, Nat.reduceMul, Int.reduceToNat, List.reduceReplicate, Nat.reduceLeDiff, Nat.reduceLT, Int.reduceLT, Int.reduceLE, Int.reduceEq])
  repeat' (first | with_reducible refine inw ?_ | simp (maxSteps := 900000) (disch := omega) only [go_sem, Nat.reduceEqDiff, ↓reduceIte, reduceCtorEq, Nat.reduceAdd, Nat.reduceMul, Int.reduceToNat, List.reduceReplicate, Nat.reduceLeDiff, Nat.reduceLT, Int.reduceLT, Int.reduceLE, Int.reduceEq] | (with_reducible apply call (c2)); (focus simp (maxSteps := 900000) (disch := omega) only [go_sem, Nat.reduceEqDiff, ↓reduceIte, reduceCtorEq, Nat.reduceAdd, Nat.reduceMul, Int.reduceToNat, List.reduceReplicate, Nat.reduceLeDiff, Nat.reduceLT, Int.reduceLT, Int.reduceLE, Int.reduceEq] <;> rfl) | with_reducible refine pickB_f ?_ | with_reducible refine giv_intro fun _h => ?_ | with_reducible refine alt_intro ?_ fun _h => ?_ | with_reducible refine pickD_nil ?_ | (with_reducible refine brc (fun _h => ?_) fun _h => ?_) <;> first | (exfalso; omega) | simp only [decide_eq_false _h] | simp only [(_h : (_ : Bool) = _)] | simp only [decide_eq_true _h] | skip)
  (refine loopC hS [1, 2, 5] (by simp only [go_sem, Nat.reduceEqDiff, ↓reduceIte, reduceCtorEq, Nat.reduceAdd, Nat.reduceMul, Int.reduceToNat, List.reduceReplicate, Nat.reduceLeDiff, Nat.reduceLT, Int.reduceLT, Int.reduceLE, Int.reduceEq]; try rfl) (fun (j : Nat) => [(3, intA (sumN (tlT a b c d) j : Nat))]) (fun (j : Nat) => [some (.row 22 4 [intA ((a : Int) + j), intA ((b : Int) - j), intA ((c : Int) - j), intA ((d : Int) + j)]), some (.row 27 2 [intA 0, intA 0])]) (fun (j : Nat) => j ≤ min b c + 1) (fun (j : Nat) => min b c + 1 - j) (0) ?_ (by intro s; first | rfl | (rcases s with ⟨_, _⟩; rfl) | (rcases s with ⟨_, _, _⟩; rfl) | (rcases s with ⟨_, _, _, _⟩; rfl) | (rcases s with ⟨_, _, _, _, _⟩; rfl)) ?_)
  · simp (maxSteps := 900000) (disch := omega) only [go_sem, Nat.reduceEqDiff, ↓reduceIte, reduceCtorEq, Nat.reduceAdd, Nat.reduceMul, Int.reduceToNat, List.reduceReplicate, Nat.reduceLeDiff, Nat.reduceLT, Int.reduceLT, Int.reduceLE, Int.reduceEq]; simp [sumN]
  · rintro j hj
    replace hj : j ≤ min b c + 1 := hj
    have hs := tlS_le a b c d j h hj
    by_cases hlt : j ≤ min b c
    · have eb : (b : Int) - j = ((b - j : Nat) : Int) := by omega
      have ec : (c : Int) - j = ((c - j : Nat) : Int) := by omega
      have c4 := tables_ok (a + j) (b - j) (c - j) (d + j) (by omega)
      change Fn P _ _ (.tup [intA (tlT a b c d j : Nat), intA (allW (a + j) (b - j) (c - j) (d + j) : Nat)]) at c4
      have ht := tlT_le a b c d j h hlt
      repeat' (first | with_reducible refine inw ?_ | simp (maxSteps := 900000) (disch := omega) only [go_sem, Nat.reduceEqDiff, ↓reduceIte, reduceCtorEq, Nat.reduceAdd, Nat.reduceMul, Int.reduceToNat, List.reduceReplicate, Nat.reduceLeDiff, Nat.reduceLT, Int.reduceLT, Int.reduceLE, Int.reduceEq, eb, ec] | (with_reducible apply call (c4)); (focus simp (maxSteps := 900000) (disch := omega) only [go_sem, Nat.reduceEqDiff, ↓reduceIte, reduceCtorEq, Nat.reduceAdd, Nat.reduceMul, Int.reduceToNat, List.reduceReplicate, Nat.reduceLeDiff, Nat.reduceLT, Int.reduceLT, Int.reduceLE, Int.reduceEq, eb, ec] <;> rfl) | with_reducible refine pickB_f ?_ | with_reducible refine giv_intro fun _h => ?_ | with_reducible refine alt_intro ?_ fun _h => ?_ | with_reducible refine pickD_nil ?_ | (with_reducible refine brc (fun _h => ?_) fun _h => ?_) <;> first | (exfalso; omega) | simp only [decide_eq_false _h] | simp only [(_h : (_ : Bool) = _)] | simp only [decide_eq_true _h] | skip)
      · refine ⟨j + 1, ⟨by omega, by omega⟩, by rw [sumN, Int.natCast_add], ?_⟩
        simp only [intA, List.cons.injEq, AV.sc.injEq, Value.int.injEq, and_true, true_and]
        omega
    · have e : j = min b c + 1 := by omega
      have hw : sumN (tlT a b c d) j = tlW a b c d := by rw [e]; rfl
      repeat' (first | with_reducible refine inw ?_ | simp (maxSteps := 900000) (disch := omega) only [go_sem, Nat.reduceEqDiff, ↓reduceIte, reduceCtorEq, Nat.reduceAdd, Nat.reduceMul, Int.reduceToNat, List.reduceReplicate, Nat.reduceLeDiff, Nat.reduceLT, Int.reduceLT, Int.reduceLE, Int.reduceEq, hw] | (with_reducible apply call (c3)); (focus simp (maxSteps := 900000) (disch := omega) only [go_sem, Nat.reduceEqDiff, ↓reduceIte, reduceCtorEq, Nat.reduceAdd, Nat.reduceMul, Int.reduceToNat, List.reduceReplicate, Nat.reduceLeDiff, Nat.reduceLT, Int.reduceLT, Int.reduceLE, Int.reduceEq, hw] <;> rfl) | with_reducible refine pickB_f ?_ | with_reducible refine giv_intro fun _h => ?_ | with_reducible refine alt_intro ?_ fun _h => ?_ | with_reducible refine pickD_nil ?_ | (with_reducible refine brc (fun _h => ?_) fun _h => ?_) <;> first | (exfalso; omega) | simp only [decide_eq_false _h] | simp only [(_h : (_ : Bool) = _)] | simp only [decide_eq_true _h] | skip)

theorem bad_ok (a b c d : Nat) (h : a + b + c + d ≤ 40) : bad a b c d = 0 := bad_0 (by unfold OkT; omega)
/-- ablaut/tally.Tail: 1 parameters, 0 captured -/
def s15 : SC := .seq (.reg [o1 1 (.box 22 4 (.t 0)),
   o1 2 (.alloc 27 2 [(.int .i64 0), (.int .i64 0)]),
   o1 3 (.mv (cI 0))])
  (.seq (.seq (.reg [o1 5 (.load (some 4) (.t 1)),
     o1 6 (.call (.f 47) [(.t 5)]),
     o1 4 (.mv (.t 6))])
    (.seq (.reg [o1 7 (.mv (.t 4)),
      o1 8 (.bin .neq (.t 7) (cI 0))])
     (.cond (.t 8) (.seq (.reg [o1 9 (.build [(.int .i64 0), (.int .i64 0)] []),
        o1 10 (.mv (.t 4)),
        o0 (.store 2 (.t 2) (.t 9)),
        o1 3 (.mv (.t 10))])
       (.ret)) (.skip))))
   (.seq (.reg [o1 11 (.load (some 4) (.t 1)),
     o1 12 (.call (.f 48) [(.t 11)]),
     o0 (.store 2 (.t 2) (.t 12)),
     o1 3 (.mv (cI 0))])
    (.ret)))
theorem s15_ok : lookF Try.prog 15 = some (s15, 13, [.cell 2 (some 2), .tmp 3]) := by kernel_rfl
theorem Tail_ok (a b c d : Nat) (h : a + b + c + d ≤ 40) : Fn P 15 [tabA a b c d] (.tup [frA ((tlW a b c d / Nat.gcd (tlW a b c d) (allW a b c d) : Nat) : Int) ((allW a b c d / Nat.gcd (tlW a b c d) (allW a b c d) : Nat) : Int), intA 0]) := by
  have c1 := four_ok a b c d
  rw [bad_ok a b c d h] at c1
  have c2 := tail_ok a b c d h
  (refine fn_look s15_ok (by simp) (by intro k; simp only [go_sem, Nat.reduceEqDiff, ↓reduceIte, reduceCtorEq, Nat.reduceAdd, Nat.reduceMul, Int.reduceToNat, List.reduceReplicate, Nat.reduceLeDiff, Nat.reduceLT, Int.reduceLT, Int.reduceLE, Int.reduceEq]) fun S hS => cwp_sound _ _ _ _ ?_; simp (maxSteps := 900000) (disch := omega) only [s15, go_sem, Nat.reduceEqDiff, ↓reduceIte, reduceCtorEq, Nat.reduceAdd, Nat.reduceMul, Int.reduceToNat, List.reduceReplicate, Nat.reduceLeDiff, Nat.reduceLT, Int.reduceLT, Int.reduceLE, Int.reduceEq])
  repeat' (first | with_reducible refine inw ?_ | simp (maxSteps := 900000) (disch := omega) only [go_sem, Nat.reduceEqDiff, ↓reduceIte, reduceCtorEq, Nat.reduceAdd, Nat.reduceMul, Int.reduceToNat, List.reduceReplicate, Nat.reduceLeDiff, Nat.reduceLT, Int.reduceLT, Int.reduceLE, Int.reduceEq] | (with_reducible apply call (c1)); (focus simp (maxSteps := 900000) (disch := omega) only [go_sem, Nat.reduceEqDiff, ↓reduceIte, reduceCtorEq, Nat.reduceAdd, Nat.reduceMul, Int.reduceToNat, List.reduceReplicate, Nat.reduceLeDiff, Nat.reduceLT, Int.reduceLT, Int.reduceLE, Int.reduceEq] <;> rfl) | (with_reducible apply call (c2)); (focus simp (maxSteps := 900000) (disch := omega) only [go_sem, Nat.reduceEqDiff, ↓reduceIte, reduceCtorEq, Nat.reduceAdd, Nat.reduceMul, Int.reduceToNat, List.reduceReplicate, Nat.reduceLeDiff, Nat.reduceLT, Int.reduceLT, Int.reduceLE, Int.reduceEq] <;> rfl) | with_reducible refine pickB_f ?_ | with_reducible refine giv_intro fun _h => ?_ | with_reducible refine alt_intro ?_ fun _h => ?_ | with_reducible refine pickD_nil ?_ | (with_reducible refine brc (fun _h => ?_) fun _h => ?_) <;> first | (exfalso; omega) | simp only [decide_eq_false _h] | simp only [(_h : (_ : Bool) = _)] | simp only [decide_eq_true _h] | skip)
/-- ablaut/ablautlaw27.known: 0 parameters, 0 captured -/
def s17 : SC := .seq (.reg [o1 0 (.mv (cB false))])
  (.seq (.reg [o1 6 (.build [(.int .i64 0), (.int .i64 0), (.int .i64 0), (.int .i64 0)] [(0, 1, (cI 1)), (1, 1, (cI 1)), (2, 1, (cI 1)), (3, 1, (cI 1))]),
    o1 7 (.call (.f 16) [(.t 6)]),
    o1 5 (.mv (.t 7)),
    o1 8 (.ext (.t 5) 0),
    o1 9 (.ext (.t 5) 1),
    o1 1 (.alloc 27 2 [(.int .i64 0), (.int .i64 0)]),
    o0 (.store 2 (.t 1) (.t 8)),
    o1 2 (.mv (.t 9))])
   (.seq (.reg [o1 11 (.build [(.int .i64 0), (.int .i64 0), (.int .i64 0), (.int .i64 0)] [(0, 1, (cI 1)), (1, 1, (cI 1)), (2, 1, (cI 1)), (3, 1, (cI 1))]),
     o1 12 (.call (.f 15) [(.t 11)]),
     o1 10 (.mv (.t 12)),
     o1 13 (.ext (.t 10) 0),
     o1 14 (.ext (.t 10) 1),
     o1 3 (.alloc 27 2 [(.int .i64 0), (.int .i64 0)]),
     o0 (.store 2 (.t 3) (.t 13)),
     o1 4 (.mv (.t 14))])
    (.seq (.reg [o1 15 (.mv (.t 2)),
      o1 16 (.bin .eql (.t 15) (cI 0)),
      o1 17 (.mv (.t 16)),
      oT 18 (.mv (.t 4)) 17,
      oT 19 (.bin .eql (.t 18) (cI 0)) 17,
      o1 20 (.pick (.t 17) (.t 19) (cB false)),
      o1 21 (.mv (.t 20)),
      oT 22 (.load (some 2) (.t 1)) 21,
      oT 23 (.build [(.int .i64 0), (.int .i64 0)] [(0, 1, (cI 2)), (1, 1, (cI 3))]) 21,
      oT 24 (.eqS false [((.int .i64), 0), ((.int .i64), 1)] (.t 22) (.t 23)) 21,
      o1 25 (.pick (.t 21) (.t 24) (cB false)),
      o1 26 (.mv (.t 25)),
      oT 27 (.load (some 2) (.t 3)) 26,
      oT 28 (.build [(.int .i64 0), (.int .i64 0)] [(0, 1, (cI 5)), (1, 1, (cI 6))]) 26,
      oT 29 (.eqS false [((.int .i64), 0), ((.int .i64), 1)] (.t 27) (.t 28)) 26,
      o1 30 (.pick (.t 26) (.t 29) (cB false)),
      o1 0 (.mv (.t 30))])
     (.ret))))
theorem s17_ok : lookF Try.prog 17 = some (s17, 31, [.tmp 0]) := by kernel_rfl
theorem known_ok : Fn P 17 [] (boolA true) := by
  have c1 := exact_ok 1 1 1 1 (by decide) (by decide) (by decide) (by decide)
  have c2 := Tail_ok 1 1 1 1 (by decide)
  have e1 : exW 1 1 1 1 = 4 := by decide
  have e2 : allW 1 1 1 1 = 6 := by decide
  have e3 : tlW 1 1 1 1 = 5 := by decide
  rw [e1, e2] at c1
  rw [e2, e3] at c2
  (refine fn_look s17_ok (by simp) (by intro k; simp only [go_sem, Nat.reduceEqDiff, ↓reduceIte, reduceCtorEq, Nat.reduceAdd, Nat.reduceMul, Int.reduceToNat, List.reduceReplicate, Nat.reduceLeDiff, Nat.reduceLT, Int.reduceLT, Int.reduceLE, Int.reduceEq]) fun S hS => cwp_sound _ _ _ _ ?_; simp (maxSteps := 900000) (disch := omega) only [s17, go_sem, Nat.reduceEqDiff, ↓reduceIte, reduceCtorEq, Nat.reduceAdd, Nat.reduceMul, Int.reduceToNat, List.reduceReplicate, Nat.reduceLeDiff, Nat.reduceLT, Int.reduceLT, Int.reduceLE, Int.reduceEq])
  repeat' (first | with_reducible refine inw ?_ | simp (maxSteps := 900000) (disch := omega) only [go_sem, Nat.reduceEqDiff, ↓reduceIte, reduceCtorEq, Nat.reduceAdd, Nat.reduceMul, Int.reduceToNat, List.reduceReplicate, Nat.reduceLeDiff, Nat.reduceLT, Int.reduceLT, Int.reduceLE, Int.reduceEq] | (with_reducible apply call (c1)); (focus simp (maxSteps := 900000) (disch := omega) only [go_sem, Nat.reduceEqDiff, ↓reduceIte, reduceCtorEq, Nat.reduceAdd, Nat.reduceMul, Int.reduceToNat, List.reduceReplicate, Nat.reduceLeDiff, Nat.reduceLT, Int.reduceLT, Int.reduceLE, Int.reduceEq] <;> rfl) | (with_reducible apply call (c2)); (focus simp (maxSteps := 900000) (disch := omega) only [go_sem, Nat.reduceEqDiff, ↓reduceIte, reduceCtorEq, Nat.reduceAdd, Nat.reduceMul, Int.reduceToNat, List.reduceReplicate, Nat.reduceLeDiff, Nat.reduceLT, Int.reduceLT, Int.reduceLE, Int.reduceEq] <;> rfl) | with_reducible refine pickB_f ?_ | with_reducible refine giv_intro fun _h => ?_ | with_reducible refine alt_intro ?_ fun _h => ?_ | with_reducible refine pickD_nil ?_ | (with_reducible refine brc (fun _h => ?_) fun _h => ?_) <;> first | (exfalso; omega) | simp only [decide_eq_false _h] | simp only [(_h : (_ : Bool) = _)] | simp only [decide_eq_true _h] | skip)
  · decide
  · revert _h; decide
end Go.Proofs.Ytedbjmonfbpefaa.Ev

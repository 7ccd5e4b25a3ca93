/- The reference: what a kind finds around a place; where a change applies. -/
import Derived.Test.YtapgimibdamjoaaZFnNe
set_option linter.unusedVariables false
set_option linter.unusedSimpArgs false
namespace Go.Proofs.Ytapgimibdamjoaa.Ev
open Go Go.Proofs

def argT (l : List Str) (x : Int) (out : List Str) : List Str := if 0 ≤ x ∧ x < l.length ∧ (out = [] ∨ nth out 0 ≠ nth l x.toNat) then out ++ [nth l x.toNat] else out
def argF (l : List Str) : List Int → List Str → List Str
  | [], out => out
  | x :: xs, out => argF l xs (argT l x out)
def argsL (k : Int) (w t : List Str) (i : Int) : List Str := if k = 9 then [⟨#[]⟩] else argF (if 5 < k then w else t) ((farD k).map (i + ·)) []
theorem argF_mem (l : List Str) (y : Str) : ∀ (xs : List Int) (out : List Str), y ∈ argF l xs out ↔ y ∈ out ∨ ∃ x ∈ xs, (0 ≤ x ∧ x < l.length) ∧ nth l x.toNat = y
  | [], out => by simp [argF]
  | x :: xs, out => by
    rw [argF, argF_mem l y xs, argT]
    by_cases h : 0 ≤ x ∧ x < l.length
    · by_cases h2 : out = [] ∨ nth out 0 ≠ nth l x.toNat
      · rw [if_pos ⟨h.1, h.2, h2⟩]
        simp only [List.mem_append, List.mem_cons, exists_eq_or_imp, h, and_self, true_and]
        constructor
        · rintro ((a | a | a) | a)
          · exact .inl a
          · exact .inr (.inl a.symm)
          · cases a
          · exact .inr (.inr a)
        · rintro (a | a | a)
          · exact .inl (.inl a)
          · exact .inl (.inr (.inl a.symm))
          · exact .inr a
      · rw [if_neg (fun e => h2 e.2.2)]
        simp only [List.mem_cons, exists_eq_or_imp, h, and_self, true_and]
        constructor
        · rintro (a | a)
          · exact .inl a
          · exact .inr (.inr a)
        · rintro (a | a | a)
          · exact .inl a
          · refine .inl ?_
            simp only [not_or, ne_eq, Classical.not_not] at h2
            rw [← a, ← h2.2]
            have : 0 < out.length := by
              cases out with
              | nil => exact absurd rfl h2.1
              | cons _ _ => simp
            exact nth_mem this
          · exact .inr a
    · rw [if_neg (fun e => h ⟨e.1, e.2.1⟩)]
      simp only [List.mem_cons, exists_eq_or_imp, h, false_and, false_or]
theorem argF_drop {l : List Str} {x : List Int} {k : Nat} (h : k < x.length) (out : List Str) : argF l (x.drop k) out = argF l (x.drop (k + 1)) (argT l (nth x k) out) := by
  rw [nth_drop h, argF]
theorem far_len : ∀ k : Int, (farD k).length ≤ 2 := fun k => by
  unfold farD
  have : ∀ n : Nat, (nth ([[-1], [1], [-2], [2], [-1, -2], [1, 2], [0], [-1], [1]] : List (List Int)) n).length ≤ 2 := fun n => by
    rcases Nat.lt_or_ge n 9 with h | h
    · have : n = 0 ∨ n = 1 ∨ n = 2 ∨ n = 3 ∨ n = 4 ∨ n = 5 ∨ n = 6 ∨ n = 7 ∨ n = 8 := by omega
      rcases this with rfl | rfl | rfl | rfl | rfl | rfl | rfl | rfl | rfl <;> decide
    · rw [nth, List.getD_eq_getElem?_getD, List.getElem?_eq_none (by simpa using h)]; decide
  exact this _
theorem argT_0 {l : List Str} {x : Int} {out : List Str} (h : ¬(0 ≤ x ∧ x < l.length)) : argT l x out = out := by rw [argT, if_neg (fun e => h ⟨e.1, e.2.1⟩)]
theorem argT_1 {l : List Str} {x : Int} {out : List Str} (h : 0 ≤ x ∧ x < l.length) (h2 : out = [] ∨ nth out 0 ≠ nth l x.toNat) : argT l x out = out ++ [nth l x.toNat] := by rw [argT, if_pos ⟨h.1, h.2, h2⟩]
theorem argT_2 {l : List Str} {x : Int} {out : List Str} (h0 : out ≠ []) (h2 : nth out 0 = nth l x.toNat) : argT l x out = out := by
  rw [argT, if_neg]; rintro ⟨_, _, h | h⟩
  · exact h0 h
  · exact h h2
/-- ablaut/ablautref22.args: 4 parameters, 0 captured -/
def s68 : SC := .seq (.reg [o1 8 (.mv (.c (.slice none 0 0)))])
  (.seq (.reg [o1 13 (.mv (.t 2)),
    o1 9 (.mv (.t 13))])
   (.seq (.seq (.reg [o1 14 (.mv (.t 0)),
      o1 15 (.bin .geq (.t 14) (cI 6))])
     (.cond (.t 15) (.reg [o1 16 (.mv (.t 1)),
       o1 9 (.mv (.t 16))]) (.skip)))
    (.seq (.reg [o1 10 (.mv (.c (.slice none 0 0)))])
     (.seq (.seq (.reg [o1 17 (.mv (.t 0))])
       (.block 0 (.seq (.seq (.reg [o1 20 (.bin .eql (.t 17) (cI 0)),
           o1 19 (.mv (.t 20))])
          (.cond (.t 19) (.skip) (.reg [o1 21 (.bin .eql (.t 17) (cI 7)),
            o1 19 (.mv (.t 21))])))
         (.cond (.t 19) (.reg [o1 22 (.mv (.t 3)),
           o1 23 (.bin .sub (.t 22) (cI 1)),
           o1 24 (.buildSl 3 1 1 [(.int .i64 0)] [(0, 1, (.t 23))]),
           o1 10 (.mv (.t 24))]) (.seq (.seq (.reg [o1 26 (.bin .eql (.t 17) (cI 1)),
             o1 25 (.mv (.t 26))])
            (.cond (.t 25) (.skip) (.reg [o1 27 (.bin .eql (.t 17) (cI 8)),
              o1 25 (.mv (.t 27))])))
           (.cond (.t 25) (.reg [o1 28 (.mv (.t 3)),
             o1 29 (.bin .add (.t 28) (cI 1)),
             o1 30 (.buildSl 3 1 1 [(.int .i64 0)] [(0, 1, (.t 29))]),
             o1 10 (.mv (.t 30))]) (.seq (.reg [o1 32 (.bin .eql (.t 17) (cI 2)),
              o1 31 (.mv (.t 32))])
             (.cond (.t 31) (.reg [o1 33 (.mv (.t 3)),
               o1 34 (.bin .sub (.t 33) (cI 2)),
               o1 35 (.buildSl 3 1 1 [(.int .i64 0)] [(0, 1, (.t 34))]),
               o1 10 (.mv (.t 35))]) (.seq (.reg [o1 37 (.bin .eql (.t 17) (cI 3)),
                o1 36 (.mv (.t 37))])
               (.cond (.t 36) (.reg [o1 38 (.mv (.t 3)),
                 o1 39 (.bin .add (.t 38) (cI 2)),
                 o1 40 (.buildSl 3 1 1 [(.int .i64 0)] [(0, 1, (.t 39))]),
                 o1 10 (.mv (.t 40))]) (.seq (.reg [o1 42 (.bin .eql (.t 17) (cI 4)),
                  o1 41 (.mv (.t 42))])
                 (.cond (.t 41) (.reg [o1 43 (.mv (.t 3)),
                   o1 44 (.bin .sub (.t 43) (cI 1)),
                   o1 45 (.mv (.t 3)),
                   o1 46 (.bin .sub (.t 45) (cI 2)),
                   o1 47 (.buildSl 3 1 2 [(.int .i64 0)] [(0, 1, (.t 44)), (1, 1, (.t 46))]),
                   o1 10 (.mv (.t 47))]) (.seq (.reg [o1 49 (.bin .eql (.t 17) (cI 5)),
                    o1 48 (.mv (.t 49))])
                   (.cond (.t 48) (.reg [o1 50 (.mv (.t 3)),
                     o1 51 (.bin .add (.t 50) (cI 1)),
                     o1 52 (.mv (.t 3)),
                     o1 53 (.bin .add (.t 52) (cI 2)),
                     o1 54 (.buildSl 3 1 2 [(.int .i64 0)] [(0, 1, (.t 51)), (1, 1, (.t 53))]),
                     o1 10 (.mv (.t 54))]) (.seq (.reg [o1 56 (.bin .eql (.t 17) (cI 6)),
                      o1 55 (.mv (.t 56))])
                     (.cond (.t 55) (.reg [o1 57 (.mv (.t 3)),
                       o1 58 (.buildSl 3 1 1 [(.int .i64 0)] [(0, 1, (.t 57))]),
                       o1 10 (.mv (.t 58))]) (.seq (.reg [o1 18 (.buildSl 9 1 1 [(.string ⟨#[]⟩)] [(0, 1, (.c (.string ⟨#[]⟩)))]),
                        o1 8 (.mv (.t 18))])
                       (.ret))))))))))))))))))
      (.seq (.reg [o1 11 (.mv (.c (.slice none 0 0)))])
       (.seq (.seq (.reg [o1 12 (.mv (cI 0))])
         (.block 1 (.loop (.seq (.seq (.reg [o1 59 (.mv (.t 12)),
              o1 60 (.mv (.t 10)),
              o1 61 (.lenL (.t 60)),
              o1 62 (.bin .lss (.t 59) (.t 61))])
             (.cond (.t 62) (.skip) (.exit 1)))
            (.seq (.block 2 (.seq (.regD [o1 65 (.mv (.t 10)),
                o1 66 (.mv (.t 12)),
                o1 67 (.iaddr 1 (.t 65) (.t 66)),
                o1 68 (.load none (.t 67)),
                o1 69 (.bin .geq (.t 68) (cI 0)),
                o1 70 (.mv (.t 69)),
                oT 71 (.mv (.t 10)) 70,
                oT 72 (.mv (.t 12)) 70,
                oT 73 (.iaddr 1 (.t 71) (.t 72)) 70,
                oT 74 (.load none (.t 73)) 70,
                oT 75 (.mv (.t 9)) 70,
                oT 76 (.lenL (.t 75)) 70,
                oT 77 (.bin .lss (.t 74) (.t 76)) 70,
                o1 78 (.pick (.t 70) (.t 77) (cB false)),
                o1 79 (.mv (.t 78)),
                oT 80 (.mv (.t 11)) 79,
                oT 81 (.lenL (.t 80)) 79,
                oT 82 (.bin .eql (.t 81) (cI 0)) 79,
                oT 83 (.mv (.t 82)) 79,
                oF 84 (.mv (.t 11)) 83,
                oF 85 (.iaddr 1 (.t 84) (cI 0)) 83,
                oF 86 (.load none (.t 85)) 83,
                oF 87 (.mv (.t 9)) 83,
                oF 88 (.mv (.t 10)) 83,
                oF 89 (.mv (.t 12)) 83,
                oF 90 (.iaddr 1 (.t 88) (.t 89)) 83,
                oF 91 (.load none (.t 90)) 83,
                oF 92 (.iaddr 1 (.t 87) (.t 91)) 83,
                oF 93 (.load none (.t 92)) 83,
                oF 94 (.bin .neq (.t 86) (.t 93)) 83,
                oT 95 (.pick (.t 83) (cB true) (.t 94)) 79,
                o1 96 (.pick (.t 79) (.t 95) (cB false))])
               (.cond (.t 96) (.reg [o1 97 (.mv (.t 11)),
                 o1 98 (.mv (.t 9)),
                 o1 99 (.mv (.t 10)),
                 o1 100 (.mv (.t 12)),
                 o1 101 (.iaddr 1 (.t 99) (.t 100)),
                 o1 102 (.load none (.t 101)),
                 o1 103 (.iaddr 1 (.t 98) (.t 102)),
                 o1 104 (.load none (.t 103)),
                 o1 105 (.buildSl 9 1 1 [(.string ⟨#[]⟩)] [(0, 1, (.t 104))]),
                 o1 106 (.app 9 1 16 (.t 97) (.t 105)),
                 o1 11 (.mv (.t 106))]) (.skip))))
             (.reg [o1 63 (.mv (.t 12)),
              o1 64 (.bin .add (.t 63) (cI 1)),
              o1 12 (.mv (.t 64))]))))))
        (.seq (.reg [o1 107 (.mv (.t 11)),
          o1 8 (.mv (.t 107))])
         (.ret))))))))
theorem s68_ok : lookF Try.prog 68 = some (s68, 108, [.tmp 8]) := by kernel_rfl
set_option maxRecDepth 10000 in
theorem args_0 (w t : List Str) (i : Nat) (hib : i ≤ 4611686018427387904) : Fn P 68 [intA 0, sl w, sl t, intA i] (sl (argsL 0 w t i)) := by
  obtain ⟨x, hx⟩ : ∃ x : List Int, x = [(i : Int) - 1] := ⟨_, rfl⟩
  have hq : argsL 0 w t i = argF t x [] := by
    rw [hx, argsL, if_neg (by decide)]; simp [farD, nth, Int.sub_eq_add_neg]
  have hxb : ∀ y ∈ x, -2 ≤ y ∧ y ≤ 4611686018427387906 := by rw [hx]; simp; omega
  rw [hq]
  (refine fn_look s68_ok (by simp) (by intro k; simp only [go_sem, Nat.reduceEqDiff, ↓reduceIte, reduceCtorEq, Nat.reduceAdd, Nat.reduceMul, Int.reduceToNat, List.reduceReplicate, Nat.reduceLeDiff, Nat.reduceLT, Int.reduceLT, Int.reduceLE, Int.reduceEq]) fun S hS => cwp_sound _ _ _ _ ?_; simp (maxSteps := 900000) (disch := omega) only [s68, go_sem, Nat.reduceEqDiff, ↓reduceIte, reduceCtorEq, Nat.reduceAdd, Nat.reduceMul, Int.reduceToNat, List.reduceReplicate, Nat.reduceLeDiff, Nat.reduceLT, Int.reduceLT, Int.reduceLE, Int.reduceEq])
  repeat' (first | with_reducible refine inw ?_ | simp (maxSteps := 900000) (disch := omega) only [go_sem, Nat.reduceEqDiff, ↓reduceIte, reduceCtorEq, Nat.reduceAdd, Nat.reduceMul, Int.reduceToNat, List.reduceReplicate, Nat.reduceLeDiff, Nat.reduceLT, Int.reduceLT, Int.reduceLE, Int.reduceEq] | with_reducible refine giv_intro fun _h => ?_ | with_reducible refine alt_intro ?_ fun _h => ?_ | with_reducible refine pickD_nil ?_ | (with_reducible refine brc (fun _h => ?_) fun _h => ?_) <;> first | (exfalso; omega) | simp only [decide_eq_false _h] | simp only [(_h : (_ : Bool) = _)] | simp only [decide_eq_true _h] | skip)
  refine nil_row 11 9 1 (by simp (maxSteps := 900000) (disch := omega) only [go_sem, Nat.reduceEqDiff, ↓reduceIte, reduceCtorEq, Nat.reduceAdd, Nat.reduceMul, Int.reduceToNat, List.reduceReplicate, Nat.reduceLeDiff, Nat.reduceLT, Int.reduceLT, Int.reduceLE, Int.reduceEq]) ?_
  (refine loopC hS [9] (by simp only [go_sem, Nat.reduceEqDiff, ↓reduceIte, reduceCtorEq, Nat.reduceAdd, Nat.reduceMul, Int.reduceToNat, List.reduceReplicate, Nat.reduceLeDiff, Nat.reduceLT, Int.reduceLT, Int.reduceLE, Int.reduceEq]; try rfl) (fun (⟨j, out⟩ : Nat × List Str) => [(10, .ref (S.nm 0) 1 0 1), (11, own S 1 out), (12, intA j)]) (fun (⟨j, out⟩ : Nat × List Str) => [rowO 3 x, rowO 9 out]) (fun (⟨j, out⟩ : Nat × List Str) => j ≤ x.length ∧ argF t x [] = argF t (x.drop j) out ∧ out.length ≤ j) (fun (⟨j, out⟩ : Nat × List Str) => x.length - j) ((0, [])) ?h01 ?hn1 ?rd1; case hn1 => (intro s; first | rfl | (rcases s with ⟨_, _⟩; rfl) | (rcases s with ⟨_, _, _⟩; rfl) | (rcases s with ⟨_, _, _, _⟩; rfl) | (rcases s with ⟨_, _, _, _, _⟩; rfl)))
  · simp (maxSteps := 900000) (disch := omega) only [go_sem, Nat.reduceEqDiff, ↓reduceIte, reduceCtorEq, Nat.reduceAdd, Nat.reduceMul, Int.reduceToNat, List.reduceReplicate, Nat.reduceLeDiff, Nat.reduceLT, Int.reduceLT, Int.reduceLE, Int.reduceEq]
    subst hx
    exact ⟨Nat.zero_le _, rfl⟩
  rintro ⟨j, out⟩ ⟨h1, h2, h3⟩
  replace h1 : j ≤ x.length := h1
  replace h2 : argF t x [] = argF t (x.drop j) out := h2
  replace h3 : out.length ≤ j := h3
  have hl : x.length = 1 := by rw [hx]; rfl
  by_cases hj : j < x.length
  · rw [argF_drop hj] at h2
    have hb := hxb _ (nth_mem hj)
    repeat' (first | with_reducible refine inw ?_ | simp (maxSteps := 900000) (disch := omega) only [go_sem, Nat.reduceEqDiff, ↓reduceIte, reduceCtorEq, Nat.reduceAdd, Nat.reduceMul, Int.reduceToNat, List.reduceReplicate, Nat.reduceLeDiff, Nat.reduceLT, Int.reduceLT, Int.reduceLE, Int.reduceEq] | with_reducible refine giv_intro fun _h => ?_ | with_reducible refine alt_intro ?_ fun _h => ?_ | with_reducible refine pickD_nil ?_ | (with_reducible refine brc (fun _h => ?_) fun _h => ?_) <;> first | (exfalso; omega) | simp only [decide_eq_false _h] | simp only [(_h : (_ : Bool) = _)] | simp only [decide_eq_true _h] | skip)
    all_goals first
      | (rw [argT_1 ⟨by assumption, by assumption⟩ (.inl (List.eq_nil_of_length_eq_zero (by omega)))] at h2
         exact ⟨(j + 1, out ++ [nth t (nth x j).toNat]), ⟨by dsimp only; omega, by dsimp only; omega, h2, by simp; omega⟩, ⟨⟨by simp, by simp⟩, by simp⟩, rfl⟩)
      | (rw [argT_1 ⟨by assumption, by assumption⟩ (.inr (by assumption))] at h2
         exact ⟨(j + 1, out ++ [nth t (nth x j).toNat]), ⟨by dsimp only; omega, by dsimp only; omega, h2, by simp; omega⟩, ⟨⟨by simp, by simp⟩, by simp⟩, rfl⟩)
      | (rw [argT_0 (by omega)] at h2
         exact ⟨(j + 1, out), ⟨by dsimp only; omega, by dsimp only; omega, h2, by simp; omega⟩, ⟨⟨by simp, by simp⟩, by simp⟩, rfl⟩)
      | (rw [argT_2 (List.ne_nil_of_length_pos (by omega)) (by assumption)] at h2
         exact ⟨(j + 1, out), ⟨by dsimp only; omega, by dsimp only; omega, h2, by simp; omega⟩, ⟨⟨by simp, by simp⟩, by simp⟩, rfl⟩)
  · rw [drop_end (by omega)] at h2
    repeat' (first | with_reducible refine inw ?_ | simp (maxSteps := 900000) (disch := omega) only [go_sem, Nat.reduceEqDiff, ↓reduceIte, reduceCtorEq, Nat.reduceAdd, Nat.reduceMul, Int.reduceToNat, List.reduceReplicate, Nat.reduceLeDiff, Nat.reduceLT, Int.reduceLT, Int.reduceLE, Int.reduceEq] | with_reducible refine giv_intro fun _h => ?_ | with_reducible refine alt_intro ?_ fun _h => ?_ | with_reducible refine pickD_nil ?_ | (with_reducible refine brc (fun _h => ?_) fun _h => ?_) <;> first | (exfalso; omega) | simp only [decide_eq_false _h] | simp only [(_h : (_ : Bool) = _)] | simp only [decide_eq_true _h] | skip)
    rw [h2]; rfl
set_option maxRecDepth 10000 in
theorem args_1 (w t : List Str) (i : Nat) (hib : i ≤ 4611686018427387904) : Fn P 68 [intA 1, sl w, sl t, intA i] (sl (argsL 1 w t i)) := by
  obtain ⟨x, hx⟩ : ∃ x : List Int, x = [(i : Int) + 1] := ⟨_, rfl⟩
  have hq : argsL 1 w t i = argF t x [] := by
    rw [hx, argsL, if_neg (by decide)]; simp [farD, nth, Int.sub_eq_add_neg]
  have hxb : ∀ y ∈ x, -2 ≤ y ∧ y ≤ 4611686018427387906 := by rw [hx]; simp; omega
  rw [hq]
  (refine fn_look s68_ok (by simp) (by intro k; simp only [go_sem, Nat.reduceEqDiff, ↓reduceIte, reduceCtorEq, Nat.reduceAdd, Nat.reduceMul, Int.reduceToNat, List.reduceReplicate, Nat.reduceLeDiff, Nat.reduceLT, Int.reduceLT, Int.reduceLE, Int.reduceEq]) fun S hS => cwp_sound _ _ _ _ ?_; simp (maxSteps := 900000) (disch := omega) only [s68, go_sem, Nat.reduceEqDiff, ↓reduceIte, reduceCtorEq, Nat.reduceAdd, Nat.reduceMul, Int.reduceToNat, List.reduceReplicate, Nat.reduceLeDiff, Nat.reduceLT, Int.reduceLT, Int.reduceLE, Int.reduceEq])
  repeat' (first | with_reducible refine inw ?_ | simp (maxSteps := 900000) (disch := omega) only [go_sem, Nat.reduceEqDiff, ↓reduceIte, reduceCtorEq, Nat.reduceAdd, Nat.reduceMul, Int.reduceToNat, List.reduceReplicate, Nat.reduceLeDiff, Nat.reduceLT, Int.reduceLT, Int.reduceLE, Int.reduceEq] | with_reducible refine giv_intro fun _h => ?_ | with_reducible refine alt_intro ?_ fun _h => ?_ | with_reducible refine pickD_nil ?_ | (with_reducible refine brc (fun _h => ?_) fun _h => ?_) <;> first | (exfalso; omega) | simp only [decide_eq_false _h] | simp only [(_h : (_ : Bool) = _)] | simp only [decide_eq_true _h] | skip)
  refine nil_row 11 9 1 (by simp (maxSteps := 900000) (disch := omega) only [go_sem, Nat.reduceEqDiff, ↓reduceIte, reduceCtorEq, Nat.reduceAdd, Nat.reduceMul, Int.reduceToNat, List.reduceReplicate, Nat.reduceLeDiff, Nat.reduceLT, Int.reduceLT, Int.reduceLE, Int.reduceEq]) ?_
  (refine loopC hS [9] (by simp only [go_sem, Nat.reduceEqDiff, ↓reduceIte, reduceCtorEq, Nat.reduceAdd, Nat.reduceMul, Int.reduceToNat, List.reduceReplicate, Nat.reduceLeDiff, Nat.reduceLT, Int.reduceLT, Int.reduceLE, Int.reduceEq]; try rfl) (fun (⟨j, out⟩ : Nat × List Str) => [(10, .ref (S.nm 0) 1 0 1), (11, own S 1 out), (12, intA j)]) (fun (⟨j, out⟩ : Nat × List Str) => [rowO 3 x, rowO 9 out]) (fun (⟨j, out⟩ : Nat × List Str) => j ≤ x.length ∧ argF t x [] = argF t (x.drop j) out ∧ out.length ≤ j) (fun (⟨j, out⟩ : Nat × List Str) => x.length - j) ((0, [])) ?h02 ?hn2 ?rd2; case hn2 => (intro s; first | rfl | (rcases s with ⟨_, _⟩; rfl) | (rcases s with ⟨_, _, _⟩; rfl) | (rcases s with ⟨_, _, _, _⟩; rfl) | (rcases s with ⟨_, _, _, _, _⟩; rfl)))
  · simp (maxSteps := 900000) (disch := omega) only [go_sem, Nat.reduceEqDiff, ↓reduceIte, reduceCtorEq, Nat.reduceAdd, Nat.reduceMul, Int.reduceToNat, List.reduceReplicate, Nat.reduceLeDiff, Nat.reduceLT, Int.reduceLT, Int.reduceLE, Int.reduceEq]
    subst hx
    exact ⟨Nat.zero_le _, rfl⟩
  rintro ⟨j, out⟩ ⟨h1, h2, h3⟩
  replace h1 : j ≤ x.length := h1
  replace h2 : argF t x [] = argF t (x.drop j) out := h2
  replace h3 : out.length ≤ j := h3
  have hl : x.length = 1 := by rw [hx]; rfl
  by_cases hj : j < x.length
  · rw [argF_drop hj] at h2
    have hb := hxb _ (nth_mem hj)
    repeat' (first | with_reducible refine inw ?_ | simp (maxSteps := 900000) (disch := omega) only [go_sem, Nat.reduceEqDiff, ↓reduceIte, reduceCtorEq, Nat.reduceAdd, Nat.reduceMul, Int.reduceToNat, List.reduceReplicate, Nat.reduceLeDiff, Nat.reduceLT, Int.reduceLT, Int.reduceLE, Int.reduceEq] | with_reducible refine giv_intro fun _h => ?_ | with_reducible refine alt_intro ?_ fun _h => ?_ | with_reducible refine pickD_nil ?_ | (with_reducible refine brc (fun _h => ?_) fun _h => ?_) <;> first | (exfalso; omega) | simp only [decide_eq_false _h] | simp only [(_h : (_ : Bool) = _)] | simp only [decide_eq_true _h] | skip)
    all_goals first
      | (rw [argT_1 ⟨by assumption, by assumption⟩ (.inl (List.eq_nil_of_length_eq_zero (by omega)))] at h2
         exact ⟨(j + 1, out ++ [nth t (nth x j).toNat]), ⟨by dsimp only; omega, by dsimp only; omega, h2, by simp; omega⟩, ⟨⟨by simp, by simp⟩, by simp⟩, rfl⟩)
      | (rw [argT_1 ⟨by assumption, by assumption⟩ (.inr (by assumption))] at h2
         exact ⟨(j + 1, out ++ [nth t (nth x j).toNat]), ⟨by dsimp only; omega, by dsimp only; omega, h2, by simp; omega⟩, ⟨⟨by simp, by simp⟩, by simp⟩, rfl⟩)
      | (rw [argT_0 (by omega)] at h2
         exact ⟨(j + 1, out), ⟨by dsimp only; omega, by dsimp only; omega, h2, by simp; omega⟩, ⟨⟨by simp, by simp⟩, by simp⟩, rfl⟩)
      | (rw [argT_2 (List.ne_nil_of_length_pos (by omega)) (by assumption)] at h2
         exact ⟨(j + 1, out), ⟨by dsimp only; omega, by dsimp only; omega, h2, by simp; omega⟩, ⟨⟨by simp, by simp⟩, by simp⟩, rfl⟩)
  · rw [drop_end (by omega)] at h2
    repeat' (first | with_reducible refine inw ?_ | simp (maxSteps := 900000) (disch := omega) only [go_sem, Nat.reduceEqDiff, ↓reduceIte, reduceCtorEq, Nat.reduceAdd, Nat.reduceMul, Int.reduceToNat, List.reduceReplicate, Nat.reduceLeDiff, Nat.reduceLT, Int.reduceLT, Int.reduceLE, Int.reduceEq] | with_reducible refine giv_intro fun _h => ?_ | with_reducible refine alt_intro ?_ fun _h => ?_ | with_reducible refine pickD_nil ?_ | (with_reducible refine brc (fun _h => ?_) fun _h => ?_) <;> first | (exfalso; omega) | simp only [decide_eq_false _h] | simp only [(_h : (_ : Bool) = _)] | simp only [decide_eq_true _h] | skip)
    rw [h2]; rfl
set_option maxRecDepth 10000 in
theorem args_2 (w t : List Str) (i : Nat) (hib : i ≤ 4611686018427387904) : Fn P 68 [intA 2, sl w, sl t, intA i] (sl (argsL 2 w t i)) := by
  obtain ⟨x, hx⟩ : ∃ x : List Int, x = [(i : Int) - 2] := ⟨_, rfl⟩
  have hq : argsL 2 w t i = argF t x [] := by
    rw [hx, argsL, if_neg (by decide)]; simp [farD, nth, Int.sub_eq_add_neg]
  have hxb : ∀ y ∈ x, -2 ≤ y ∧ y ≤ 4611686018427387906 := by rw [hx]; simp; omega
  rw [hq]
  (refine fn_look s68_ok (by simp) (by intro k; simp only [go_sem, Nat.reduceEqDiff, ↓reduceIte, reduceCtorEq, Nat.reduceAdd, Nat.reduceMul, Int.reduceToNat, List.reduceReplicate, Nat.reduceLeDiff, Nat.reduceLT, Int.reduceLT, Int.reduceLE, Int.reduceEq]) fun S hS => cwp_sound _ _ _ _ ?_; simp (maxSteps := 900000) (disch := omega) only [s68, go_sem, Nat.reduceEqDiff, ↓reduceIte, reduceCtorEq, Nat.reduceAdd, Nat.reduceMul, Int.reduceToNat, List.reduceReplicate, Nat.reduceLeDiff, Nat.reduceLT, Int.reduceLT, Int.reduceLE, Int.reduceEq])
  repeat' (first | with_reducible refine inw ?_ | simp (maxSteps := 900000) (disch := omega) only [go_sem, Nat.reduceEqDiff, ↓reduceIte, reduceCtorEq, Nat.reduceAdd, Nat.reduceMul, Int.reduceToNat, List.reduceReplicate, Nat.reduceLeDiff, Nat.reduceLT, Int.reduceLT, Int.reduceLE, Int.reduceEq] | with_reducible refine giv_intro fun _h => ?_ | with_reducible refine alt_intro ?_ fun _h => ?_ | with_reducible refine pickD_nil ?_ | (with_reducible refine brc (fun _h => ?_) fun _h => ?_) <;> first | (exfalso; omega) | simp only [decide_eq_false _h] | simp only [(_h : (_ : Bool) = _)] | simp only [decide_eq_true _h] | skip)
  refine nil_row 11 9 1 (by simp (maxSteps := 900000) (disch := omega) only [go_sem, Nat.reduceEqDiff, ↓reduceIte, reduceCtorEq, Nat.reduceAdd, Nat.reduceMul, Int.reduceToNat, List.reduceReplicate, Nat.reduceLeDiff, Nat.reduceLT, Int.reduceLT, Int.reduceLE, Int.reduceEq]) ?_
  (refine loopC hS [9] (by simp only [go_sem, Nat.reduceEqDiff, ↓reduceIte, reduceCtorEq, Nat.reduceAdd, Nat.reduceMul, Int.reduceToNat, List.reduceReplicate, Nat.reduceLeDiff, Nat.reduceLT, Int.reduceLT, Int.reduceLE, Int.reduceEq]; try rfl) (fun (⟨j, out⟩ : Nat × List Str) => [(10, .ref (S.nm 0) 1 0 1), (11, own S 1 out), (12, intA j)]) (fun (⟨j, out⟩ : Nat × List Str) => [rowO 3 x, rowO 9 out]) (fun (⟨j, out⟩ : Nat × List Str) => j ≤ x.length ∧ argF t x [] = argF t (x.drop j) out ∧ out.length ≤ j) (fun (⟨j, out⟩ : Nat × List Str) => x.length - j) ((0, [])) ?h03 ?hn3 ?rd3; case hn3 => (intro s; first | rfl | (rcases s with ⟨_, _⟩; rfl) | (rcases s with ⟨_, _, _⟩; rfl) | (rcases s with ⟨_, _, _, _⟩; rfl) | (rcases s with ⟨_, _, _, _, _⟩; rfl)))
  · simp (maxSteps := 900000) (disch := omega) only [go_sem, Nat.reduceEqDiff, ↓reduceIte, reduceCtorEq, Nat.reduceAdd, Nat.reduceMul, Int.reduceToNat, List.reduceReplicate, Nat.reduceLeDiff, Nat.reduceLT, Int.reduceLT, Int.reduceLE, Int.reduceEq]
    subst hx
    exact ⟨Nat.zero_le _, rfl⟩
  rintro ⟨j, out⟩ ⟨h1, h2, h3⟩
  replace h1 : j ≤ x.length := h1
  replace h2 : argF t x [] = argF t (x.drop j) out := h2
  replace h3 : out.length ≤ j := h3
  have hl : x.length = 1 := by rw [hx]; rfl
  by_cases hj : j < x.length
  · rw [argF_drop hj] at h2
    have hb := hxb _ (nth_mem hj)
    repeat' (first | with_reducible refine inw ?_ | simp (maxSteps := 900000) (disch := omega) only [go_sem, Nat.reduceEqDiff, ↓reduceIte, reduceCtorEq, Nat.reduceAdd, Nat.reduceMul, Int.reduceToNat, List.reduceReplicate, Nat.reduceLeDiff, Nat.reduceLT, Int.reduceLT, Int.reduceLE, Int.reduceEq] | with_reducible refine giv_intro fun _h => ?_ | with_reducible refine alt_intro ?_ fun _h => ?_ | with_reducible refine pickD_nil ?_ | (with_reducible refine brc (fun _h => ?_) fun _h => ?_) <;> first | (exfalso; omega) | simp only [decide_eq_false _h] | simp only [(_h : (_ : Bool) = _)] | simp only [decide_eq_true _h] | skip)
    all_goals first
      | (rw [argT_1 ⟨by assumption, by assumption⟩ (.inl (List.eq_nil_of_length_eq_zero (by omega)))] at h2
         exact ⟨(j + 1, out ++ [nth t (nth x j).toNat]), ⟨by dsimp only; omega, by dsimp only; omega, h2, by simp; omega⟩, ⟨⟨by simp, by simp⟩, by simp⟩, rfl⟩)
      | (rw [argT_1 ⟨by assumption, by assumption⟩ (.inr (by assumption))] at h2
         exact ⟨(j + 1, out ++ [nth t (nth x j).toNat]), ⟨by dsimp only; omega, by dsimp only; omega, h2, by simp; omega⟩, ⟨⟨by simp, by simp⟩, by simp⟩, rfl⟩)
      | (rw [argT_0 (by omega)] at h2
         exact ⟨(j + 1, out), ⟨by dsimp only; omega, by dsimp only; omega, h2, by simp; omega⟩, ⟨⟨by simp, by simp⟩, by simp⟩, rfl⟩)
      | (rw [argT_2 (List.ne_nil_of_length_pos (by omega)) (by assumption)] at h2
         exact ⟨(j + 1, out), ⟨by dsimp only; omega, by dsimp only; omega, h2, by simp; omega⟩, ⟨⟨by simp, by simp⟩, by simp⟩, rfl⟩)
  · rw [drop_end (by omega)] at h2
    repeat' (first | with_reducible refine inw ?_ | simp (maxSteps := 900000) (disch := omega) only [go_sem, Nat.reduceEqDiff, ↓reduceIte, reduceCtorEq, Nat.reduceAdd, Nat.reduceMul, Int.reduceToNat, List.reduceReplicate, Nat.reduceLeDiff, Nat.reduceLT, Int.reduceLT, Int.reduceLE, Int.reduceEq] | with_reducible refine giv_intro fun _h => ?_ | with_reducible refine alt_intro ?_ fun _h => ?_ | with_reducible refine pickD_nil ?_ | (with_reducible refine brc (fun _h => ?_) fun _h => ?_) <;> first | (exfalso; omega) | simp only [decide_eq_false _h] | simp only [(_h : (_ : Bool) = _)] | simp only [decide_eq_true _h] | skip)
    rw [h2]; rfl
set_option maxRecDepth 10000 in
theorem args_3 (w t : List Str) (i : Nat) (hib : i ≤ 4611686018427387904) : Fn P 68 [intA 3, sl w, sl t, intA i] (sl (argsL 3 w t i)) := by
  obtain ⟨x, hx⟩ : ∃ x : List Int, x = [(i : Int) + 2] := ⟨_, rfl⟩
  have hq : argsL 3 w t i = argF t x [] := by
    rw [hx, argsL, if_neg (by decide)]; simp [farD, nth, Int.sub_eq_add_neg]
  have hxb : ∀ y ∈ x, -2 ≤ y ∧ y ≤ 4611686018427387906 := by rw [hx]; simp; omega
  rw [hq]
  (refine fn_look s68_ok (by simp) (by intro k; simp only [go_sem, Nat.reduceEqDiff, ↓reduceIte, reduceCtorEq, Nat.reduceAdd, Nat.reduceMul, Int.reduceToNat, List.reduceReplicate, Nat.reduceLeDiff, Nat.reduceLT, Int.reduceLT, Int.reduceLE, Int.reduceEq]) fun S hS => cwp_sound _ _ _ _ ?_; simp (maxSteps := 900000) (disch := omega) only [s68, go_sem, Nat.reduceEqDiff, ↓reduceIte, reduceCtorEq, Nat.reduceAdd, Nat.reduceMul, Int.reduceToNat, List.reduceReplicate, Nat.reduceLeDiff, Nat.reduceLT, Int.reduceLT, Int.reduceLE, Int.reduceEq])
  repeat' (first | with_reducible refine inw ?_ | simp (maxSteps := 900000) (disch := omega) only [go_sem, Nat.reduceEqDiff, ↓reduceIte, reduceCtorEq, Nat.reduceAdd, Nat.reduceMul, Int.reduceToNat, List.reduceReplicate, Nat.reduceLeDiff, Nat.reduceLT, Int.reduceLT, Int.reduceLE, Int.reduceEq] | with_reducible refine giv_intro fun _h => ?_ | with_reducible refine alt_intro ?_ fun _h => ?_ | with_reducible refine pickD_nil ?_ | (with_reducible refine brc (fun _h => ?_) fun _h => ?_) <;> first | (exfalso; omega) | simp only [decide_eq_false _h] | simp only [(_h : (_ : Bool) = _)] | simp only [decide_eq_true _h] | skip)
  refine nil_row 11 9 1 (by simp (maxSteps := 900000) (disch := omega) only [go_sem, Nat.reduceEqDiff, ↓reduceIte, reduceCtorEq, Nat.reduceAdd, Nat.reduceMul, Int.reduceToNat, List.reduceReplicate, Nat.reduceLeDiff, Nat.reduceLT, Int.reduceLT, Int.reduceLE, Int.reduceEq]) ?_
  (refine loopC hS [9] (by simp only [go_sem, Nat.reduceEqDiff, ↓reduceIte, reduceCtorEq, Nat.reduceAdd, Nat.reduceMul, Int.reduceToNat, List.reduceReplicate, Nat.reduceLeDiff, Nat.reduceLT, Int.reduceLT, Int.reduceLE, Int.reduceEq]; try rfl) (fun (⟨j, out⟩ : Nat × List Str) => [(10, .ref (S.nm 0) 1 0 1), (11, own S 1 out), (12, intA j)]) (fun (⟨j, out⟩ : Nat × List Str) => [rowO 3 x, rowO 9 out]) (fun (⟨j, out⟩ : Nat × List Str) => j ≤ x.length ∧ argF t x [] = argF t (x.drop j) out ∧ out.length ≤ j) (fun (⟨j, out⟩ : Nat × List Str) => x.length - j) ((0, [])) ?h04 ?hn4 ?rd4; case hn4 => (intro s; first | rfl | (rcases s with ⟨_, _⟩; rfl) | (rcases s with ⟨_, _, _⟩; rfl) | (rcases s with ⟨_, _, _, _⟩; rfl) | (rcases s with ⟨_, _, _, _, _⟩; rfl)))
  · simp (maxSteps := 900000) (disch := omega) only [go_sem, Nat.reduceEqDiff, ↓reduceIte, reduceCtorEq, Nat.reduceAdd, Nat.reduceMul, Int.reduceToNat, List.reduceReplicate, Nat.reduceLeDiff, Nat.reduceLT, Int.reduceLT, Int.reduceLE, Int.reduceEq]
    subst hx
    exact ⟨Nat.zero_le _, rfl⟩
  rintro ⟨j, out⟩ ⟨h1, h2, h3⟩
  replace h1 : j ≤ x.length := h1
  replace h2 : argF t x [] = argF t (x.drop j) out := h2
  replace h3 : out.length ≤ j := h3
  have hl : x.length = 1 := by rw [hx]; rfl
  by_cases hj : j < x.length
  · rw [argF_drop hj] at h2
    have hb := hxb _ (nth_mem hj)
    repeat' (first | with_reducible refine inw ?_ | simp (maxSteps := 900000) (disch := omega) only [go_sem, Nat.reduceEqDiff, ↓reduceIte, reduceCtorEq, Nat.reduceAdd, Nat.reduceMul, Int.reduceToNat, List.reduceReplicate, Nat.reduceLeDiff, Nat.reduceLT, Int.reduceLT, Int.reduceLE, Int.reduceEq] | with_reducible refine giv_intro fun _h => ?_ | with_reducible refine alt_intro ?_ fun _h => ?_ | with_reducible refine pickD_nil ?_ | (with_reducible refine brc (fun _h => ?_) fun _h => ?_) <;> first | (exfalso; omega) | simp only [decide_eq_false _h] | simp only [(_h : (_ : Bool) = _)] | simp only [decide_eq_true _h] | skip)
    all_goals first
      | (rw [argT_1 ⟨by assumption, by assumption⟩ (.inl (List.eq_nil_of_length_eq_zero (by omega)))] at h2
         exact ⟨(j + 1, out ++ [nth t (nth x j).toNat]), ⟨by dsimp only; omega, by dsimp only; omega, h2, by simp; omega⟩, ⟨⟨by simp, by simp⟩, by simp⟩, rfl⟩)
      | (rw [argT_1 ⟨by assumption, by assumption⟩ (.inr (by assumption))] at h2
         exact ⟨(j + 1, out ++ [nth t (nth x j).toNat]), ⟨by dsimp only; omega, by dsimp only; omega, h2, by simp; omega⟩, ⟨⟨by simp, by simp⟩, by simp⟩, rfl⟩)
      | (rw [argT_0 (by omega)] at h2
         exact ⟨(j + 1, out), ⟨by dsimp only; omega, by dsimp only; omega, h2, by simp; omega⟩, ⟨⟨by simp, by simp⟩, by simp⟩, rfl⟩)
      | (rw [argT_2 (List.ne_nil_of_length_pos (by omega)) (by assumption)] at h2
         exact ⟨(j + 1, out), ⟨by dsimp only; omega, by dsimp only; omega, h2, by simp; omega⟩, ⟨⟨by simp, by simp⟩, by simp⟩, rfl⟩)
  · rw [drop_end (by omega)] at h2
    repeat' (first | with_reducible refine inw ?_ | simp (maxSteps := 900000) (disch := omega) only [go_sem, Nat.reduceEqDiff, ↓reduceIte, reduceCtorEq, Nat.reduceAdd, Nat.reduceMul, Int.reduceToNat, List.reduceReplicate, Nat.reduceLeDiff, Nat.reduceLT, Int.reduceLT, Int.reduceLE, Int.reduceEq] | with_reducible refine giv_intro fun _h => ?_ | with_reducible refine alt_intro ?_ fun _h => ?_ | with_reducible refine pickD_nil ?_ | (with_reducible refine brc (fun _h => ?_) fun _h => ?_) <;> first | (exfalso; omega) | simp only [decide_eq_false _h] | simp only [(_h : (_ : Bool) = _)] | simp only [decide_eq_true _h] | skip)
    rw [h2]; rfl
set_option maxRecDepth 10000 in
theorem args_4 (w t : List Str) (i : Nat) (hib : i ≤ 4611686018427387904) : Fn P 68 [intA 4, sl w, sl t, intA i] (sl (argsL 4 w t i)) := by
  obtain ⟨x, hx⟩ : ∃ x : List Int, x = [(i : Int) - 1, (i : Int) - 2] := ⟨_, rfl⟩
  have hq : argsL 4 w t i = argF t x [] := by
    rw [hx, argsL, if_neg (by decide)]; simp [farD, nth, Int.sub_eq_add_neg]
  have hxb : ∀ y ∈ x, -2 ≤ y ∧ y ≤ 4611686018427387906 := by rw [hx]; simp; omega
  rw [hq]
  (refine fn_look s68_ok (by simp) (by intro k; simp only [go_sem, Nat.reduceEqDiff, ↓reduceIte, reduceCtorEq, Nat.reduceAdd, Nat.reduceMul, Int.reduceToNat, List.reduceReplicate, Nat.reduceLeDiff, Nat.reduceLT, Int.reduceLT, Int.reduceLE, Int.reduceEq]) fun S hS => cwp_sound _ _ _ _ ?_; simp (maxSteps := 900000) (disch := omega) only [s68, go_sem, Nat.reduceEqDiff, ↓reduceIte, reduceCtorEq, Nat.reduceAdd, Nat.reduceMul, Int.reduceToNat, List.reduceReplicate, Nat.reduceLeDiff, Nat.reduceLT, Int.reduceLT, Int.reduceLE, Int.reduceEq])
  repeat' (first | with_reducible refine inw ?_ | simp (maxSteps := 900000) (disch := omega) only [go_sem, Nat.reduceEqDiff, ↓reduceIte, reduceCtorEq, Nat.reduceAdd, Nat.reduceMul, Int.reduceToNat, List.reduceReplicate, Nat.reduceLeDiff, Nat.reduceLT, Int.reduceLT, Int.reduceLE, Int.reduceEq] | with_reducible refine giv_intro fun _h => ?_ | with_reducible refine alt_intro ?_ fun _h => ?_ | with_reducible refine pickD_nil ?_ | (with_reducible refine brc (fun _h => ?_) fun _h => ?_) <;> first | (exfalso; omega) | simp only [decide_eq_false _h] | simp only [(_h : (_ : Bool) = _)] | simp only [decide_eq_true _h] | skip)
  refine nil_row 11 9 1 (by simp (maxSteps := 900000) (disch := omega) only [go_sem, Nat.reduceEqDiff, ↓reduceIte, reduceCtorEq, Nat.reduceAdd, Nat.reduceMul, Int.reduceToNat, List.reduceReplicate, Nat.reduceLeDiff, Nat.reduceLT, Int.reduceLT, Int.reduceLE, Int.reduceEq]) ?_
  (refine loopC hS [9] (by simp only [go_sem, Nat.reduceEqDiff, ↓reduceIte, reduceCtorEq, Nat.reduceAdd, Nat.reduceMul, Int.reduceToNat, List.reduceReplicate, Nat.reduceLeDiff, Nat.reduceLT, Int.reduceLT, Int.reduceLE, Int.reduceEq]; try rfl) (fun (⟨j, out⟩ : Nat × List Str) => [(10, .ref (S.nm 0) 2 0 2), (11, own S 1 out), (12, intA j)]) (fun (⟨j, out⟩ : Nat × List Str) => [rowO 3 x, rowO 9 out]) (fun (⟨j, out⟩ : Nat × List Str) => j ≤ x.length ∧ argF t x [] = argF t (x.drop j) out ∧ out.length ≤ j) (fun (⟨j, out⟩ : Nat × List Str) => x.length - j) ((0, [])) ?h05 ?hn5 ?rd5; case hn5 => (intro s; first | rfl | (rcases s with ⟨_, _⟩; rfl) | (rcases s with ⟨_, _, _⟩; rfl) | (rcases s with ⟨_, _, _, _⟩; rfl) | (rcases s with ⟨_, _, _, _, _⟩; rfl)))
  · simp (maxSteps := 900000) (disch := omega) only [go_sem, Nat.reduceEqDiff, ↓reduceIte, reduceCtorEq, Nat.reduceAdd, Nat.reduceMul, Int.reduceToNat, List.reduceReplicate, Nat.reduceLeDiff, Nat.reduceLT, Int.reduceLT, Int.reduceLE, Int.reduceEq]
    subst hx
    exact ⟨Nat.zero_le _, rfl⟩
  rintro ⟨j, out⟩ ⟨h1, h2, h3⟩
  replace h1 : j ≤ x.length := h1
  replace h2 : argF t x [] = argF t (x.drop j) out := h2
  replace h3 : out.length ≤ j := h3
  have hl : x.length = 2 := by rw [hx]; rfl
  by_cases hj : j < x.length
  · rw [argF_drop hj] at h2
    have hb := hxb _ (nth_mem hj)
    repeat' (first | with_reducible refine inw ?_ | simp (maxSteps := 900000) (disch := omega) only [go_sem, Nat.reduceEqDiff, ↓reduceIte, reduceCtorEq, Nat.reduceAdd, Nat.reduceMul, Int.reduceToNat, List.reduceReplicate, Nat.reduceLeDiff, Nat.reduceLT, Int.reduceLT, Int.reduceLE, Int.reduceEq] | with_reducible refine giv_intro fun _h => ?_ | with_reducible refine alt_intro ?_ fun _h => ?_ | with_reducible refine pickD_nil ?_ | (with_reducible refine brc (fun _h => ?_) fun _h => ?_) <;> first | (exfalso; omega) | simp only [decide_eq_false _h] | simp only [(_h : (_ : Bool) = _)] | simp only [decide_eq_true _h] | skip)
    all_goals first
      | (rw [argT_1 ⟨by assumption, by assumption⟩ (.inl (List.eq_nil_of_length_eq_zero (by omega)))] at h2
         exact ⟨(j + 1, out ++ [nth t (nth x j).toNat]), ⟨by dsimp only; omega, by dsimp only; omega, h2, by simp; omega⟩, ⟨⟨by simp, by simp⟩, by simp⟩, rfl⟩)
      | (rw [argT_1 ⟨by assumption, by assumption⟩ (.inr (by assumption))] at h2
         exact ⟨(j + 1, out ++ [nth t (nth x j).toNat]), ⟨by dsimp only; omega, by dsimp only; omega, h2, by simp; omega⟩, ⟨⟨by simp, by simp⟩, by simp⟩, rfl⟩)
      | (rw [argT_0 (by omega)] at h2
         exact ⟨(j + 1, out), ⟨by dsimp only; omega, by dsimp only; omega, h2, by simp; omega⟩, ⟨⟨by simp, by simp⟩, by simp⟩, rfl⟩)
      | (rw [argT_2 (List.ne_nil_of_length_pos (by omega)) (by assumption)] at h2
         exact ⟨(j + 1, out), ⟨by dsimp only; omega, by dsimp only; omega, h2, by simp; omega⟩, ⟨⟨by simp, by simp⟩, by simp⟩, rfl⟩)
  · rw [drop_end (by omega)] at h2
    repeat' (first | with_reducible refine inw ?_ | simp (maxSteps := 900000) (disch := omega) only [go_sem, Nat.reduceEqDiff, ↓reduceIte, reduceCtorEq, Nat.reduceAdd, Nat.reduceMul, Int.reduceToNat, List.reduceReplicate, Nat.reduceLeDiff, Nat.reduceLT, Int.reduceLT, Int.reduceLE, Int.reduceEq] | with_reducible refine giv_intro fun _h => ?_ | with_reducible refine alt_intro ?_ fun _h => ?_ | with_reducible refine pickD_nil ?_ | (with_reducible refine brc (fun _h => ?_) fun _h => ?_) <;> first | (exfalso; omega) | simp only [decide_eq_false _h] | simp only [(_h : (_ : Bool) = _)] | simp only [decide_eq_true _h] | skip)
    rw [h2]; rfl
set_option maxRecDepth 10000 in
theorem args_5 (w t : List Str) (i : Nat) (hib : i ≤ 4611686018427387904) : Fn P 68 [intA 5, sl w, sl t, intA i] (sl (argsL 5 w t i)) := by
  obtain ⟨x, hx⟩ : ∃ x : List Int, x = [(i : Int) + 1, (i : Int) + 2] := ⟨_, rfl⟩
  have hq : argsL 5 w t i = argF t x [] := by
    rw [hx, argsL, if_neg (by decide)]; simp [farD, nth, Int.sub_eq_add_neg]
  have hxb : ∀ y ∈ x, -2 ≤ y ∧ y ≤ 4611686018427387906 := by rw [hx]; simp; omega
  rw [hq]
  (refine fn_look s68_ok (by simp) (by intro k; simp only [go_sem, Nat.reduceEqDiff, ↓reduceIte, reduceCtorEq, Nat.reduceAdd, Nat.reduceMul, Int.reduceToNat, List.reduceReplicate, Nat.reduceLeDiff, Nat.reduceLT, Int.reduceLT, Int.reduceLE, Int.reduceEq]) fun S hS => cwp_sound _ _ _ _ ?_; simp (maxSteps := 900000) (disch := omega) only [s68, go_sem, Nat.reduceEqDiff, ↓reduceIte, reduceCtorEq, Nat.reduceAdd, Nat.reduceMul, Int.reduceToNat, List.reduceReplicate, Nat.reduceLeDiff, Nat.reduceLT, Int.reduceLT, Int.reduceLE, Int.reduceEq])
  repeat' (first | with_reducible refine inw ?_ | simp (maxSteps := 900000) (disch := omega) only [go_sem, Nat.reduceEqDiff, ↓reduceIte, reduceCtorEq, Nat.reduceAdd, Nat.reduceMul, Int.reduceToNat, List.reduceReplicate, Nat.reduceLeDiff, Nat.reduceLT, Int.reduceLT, Int.reduceLE, Int.reduceEq] | with_reducible refine giv_intro fun _h => ?_ | with_reducible refine alt_intro ?_ fun _h => ?_ | with_reducible refine pickD_nil ?_ | (with_reducible refine brc (fun _h => ?_) fun _h => ?_) <;> first | (exfalso; omega) | simp only [decide_eq_false _h] | simp only [(_h : (_ : Bool) = _)] | simp only [decide_eq_true _h] | skip)
  refine nil_row 11 9 1 (by simp (maxSteps := 900000) (disch := omega) only [go_sem, Nat.reduceEqDiff, ↓reduceIte, reduceCtorEq, Nat.reduceAdd, Nat.reduceMul, Int.reduceToNat, List.reduceReplicate, Nat.reduceLeDiff, Nat.reduceLT, Int.reduceLT, Int.reduceLE, Int.reduceEq]) ?_
  (refine loopC hS [9] (by simp only [go_sem, Nat.reduceEqDiff, ↓reduceIte, reduceCtorEq, Nat.reduceAdd, Nat.reduceMul, Int.reduceToNat, List.reduceReplicate, Nat.reduceLeDiff, Nat.reduceLT, Int.reduceLT, Int.reduceLE, Int.reduceEq]; try rfl) (fun (⟨j, out⟩ : Nat × List Str) => [(10, .ref (S.nm 0) 2 0 2), (11, own S 1 out), (12, intA j)]) (fun (⟨j, out⟩ : Nat × List Str) => [rowO 3 x, rowO 9 out]) (fun (⟨j, out⟩ : Nat × List Str) => j ≤ x.length ∧ argF t x [] = argF t (x.drop j) out ∧ out.length ≤ j) (fun (⟨j, out⟩ : Nat × List Str) => x.length - j) ((0, [])) ?h06 ?hn6 ?rd6; case hn6 => (intro s; first | rfl | (rcases s with ⟨_, _⟩; rfl) | (rcases s with ⟨_, _, _⟩; rfl) | (rcases s with ⟨_, _, _, _⟩; rfl) | (rcases s with ⟨_, _, _, _, _⟩; rfl)))
  · simp (maxSteps := 900000) (disch := omega) only [go_sem, Nat.reduceEqDiff, ↓reduceIte, reduceCtorEq, Nat.reduceAdd, Nat.reduceMul, Int.reduceToNat, List.reduceReplicate, Nat.reduceLeDiff, Nat.reduceLT, Int.reduceLT, Int.reduceLE, Int.reduceEq]
    subst hx
    exact ⟨Nat.zero_le _, rfl⟩
  rintro ⟨j, out⟩ ⟨h1, h2, h3⟩
  replace h1 : j ≤ x.length := h1
  replace h2 : argF t x [] = argF t (x.drop j) out := h2
  replace h3 : out.length ≤ j := h3
  have hl : x.length = 2 := by rw [hx]; rfl
  by_cases hj : j < x.length
  · rw [argF_drop hj] at h2
    have hb := hxb _ (nth_mem hj)
    repeat' (first | with_reducible refine inw ?_ | simp (maxSteps := 900000) (disch := omega) only [go_sem, Nat.reduceEqDiff, ↓reduceIte, reduceCtorEq, Nat.reduceAdd, Nat.reduceMul, Int.reduceToNat, List.reduceReplicate, Nat.reduceLeDiff, Nat.reduceLT, Int.reduceLT, Int.reduceLE, Int.reduceEq] | with_reducible refine giv_intro fun _h => ?_ | with_reducible refine alt_intro ?_ fun _h => ?_ | with_reducible refine pickD_nil ?_ | (with_reducible refine brc (fun _h => ?_) fun _h => ?_) <;> first | (exfalso; omega) | simp only [decide_eq_false _h] | simp only [(_h : (_ : Bool) = _)] | simp only [decide_eq_true _h] | skip)
    all_goals first
      | (rw [argT_1 ⟨by assumption, by assumption⟩ (.inl (List.eq_nil_of_length_eq_zero (by omega)))] at h2
         exact ⟨(j + 1, out ++ [nth t (nth x j).toNat]), ⟨by dsimp only; omega, by dsimp only; omega, h2, by simp; omega⟩, ⟨⟨by simp, by simp⟩, by simp⟩, rfl⟩)
      | (rw [argT_1 ⟨by assumption, by assumption⟩ (.inr (by assumption))] at h2
         exact ⟨(j + 1, out ++ [nth t (nth x j).toNat]), ⟨by dsimp only; omega, by dsimp only; omega, h2, by simp; omega⟩, ⟨⟨by simp, by simp⟩, by simp⟩, rfl⟩)
      | (rw [argT_0 (by omega)] at h2
         exact ⟨(j + 1, out), ⟨by dsimp only; omega, by dsimp only; omega, h2, by simp; omega⟩, ⟨⟨by simp, by simp⟩, by simp⟩, rfl⟩)
      | (rw [argT_2 (List.ne_nil_of_length_pos (by omega)) (by assumption)] at h2
         exact ⟨(j + 1, out), ⟨by dsimp only; omega, by dsimp only; omega, h2, by simp; omega⟩, ⟨⟨by simp, by simp⟩, by simp⟩, rfl⟩)
  · rw [drop_end (by omega)] at h2
    repeat' (first | with_reducible refine inw ?_ | simp (maxSteps := 900000) (disch := omega) only [go_sem, Nat.reduceEqDiff, ↓reduceIte, reduceCtorEq, Nat.reduceAdd, Nat.reduceMul, Int.reduceToNat, List.reduceReplicate, Nat.reduceLeDiff, Nat.reduceLT, Int.reduceLT, Int.reduceLE, Int.reduceEq] | with_reducible refine giv_intro fun _h => ?_ | with_reducible refine alt_intro ?_ fun _h => ?_ | with_reducible refine pickD_nil ?_ | (with_reducible refine brc (fun _h => ?_) fun _h => ?_) <;> first | (exfalso; omega) | simp only [decide_eq_false _h] | simp only [(_h : (_ : Bool) = _)] | simp only [decide_eq_true _h] | skip)
    rw [h2]; rfl
set_option maxRecDepth 10000 in
theorem args_6 (w t : List Str) (i : Nat) (hib : i ≤ 4611686018427387904) : Fn P 68 [intA 6, sl w, sl t, intA i] (sl (argsL 6 w t i)) := by
  obtain ⟨x, hx⟩ : ∃ x : List Int, x = [(i : Int)] := ⟨_, rfl⟩
  have hq : argsL 6 w t i = argF w x [] := by
    rw [hx, argsL, if_neg (by decide)]; simp [farD, nth, Int.sub_eq_add_neg]
  have hxb : ∀ y ∈ x, -2 ≤ y ∧ y ≤ 4611686018427387906 := by rw [hx]; simp; omega
  rw [hq]
  (refine fn_look s68_ok (by simp) (by intro k; simp only [go_sem, Nat.reduceEqDiff, ↓reduceIte, reduceCtorEq, Nat.reduceAdd, Nat.reduceMul, Int.reduceToNat, List.reduceReplicate, Nat.reduceLeDiff, Nat.reduceLT, Int.reduceLT, Int.reduceLE, Int.reduceEq]) fun S hS => cwp_sound _ _ _ _ ?_; simp (maxSteps := 900000) (disch := omega) only [s68, go_sem, Nat.reduceEqDiff, ↓reduceIte, reduceCtorEq, Nat.reduceAdd, Nat.reduceMul, Int.reduceToNat, List.reduceReplicate, Nat.reduceLeDiff, Nat.reduceLT, Int.reduceLT, Int.reduceLE, Int.reduceEq])
  repeat' (first | with_reducible refine inw ?_ | simp (maxSteps := 900000) (disch := omega) only [go_sem, Nat.reduceEqDiff, ↓reduceIte, reduceCtorEq, Nat.reduceAdd, Nat.reduceMul, Int.reduceToNat, List.reduceReplicate, Nat.reduceLeDiff, Nat.reduceLT, Int.reduceLT, Int.reduceLE, Int.reduceEq] | with_reducible refine giv_intro fun _h => ?_ | with_reducible refine alt_intro ?_ fun _h => ?_ | with_reducible refine pickD_nil ?_ | (with_reducible refine brc (fun _h => ?_) fun _h => ?_) <;> first | (exfalso; omega) | simp only [decide_eq_false _h] | simp only [(_h : (_ : Bool) = _)] | simp only [decide_eq_true _h] | skip)
  refine nil_row 11 9 1 (by simp (maxSteps := 900000) (disch := omega) only [go_sem, Nat.reduceEqDiff, ↓reduceIte, reduceCtorEq, Nat.reduceAdd, Nat.reduceMul, Int.reduceToNat, List.reduceReplicate, Nat.reduceLeDiff, Nat.reduceLT, Int.reduceLT, Int.reduceLE, Int.reduceEq]) ?_
  (refine loopC hS [9] (by simp only [go_sem, Nat.reduceEqDiff, ↓reduceIte, reduceCtorEq, Nat.reduceAdd, Nat.reduceMul, Int.reduceToNat, List.reduceReplicate, Nat.reduceLeDiff, Nat.reduceLT, Int.reduceLT, Int.reduceLE, Int.reduceEq]; try rfl) (fun (⟨j, out⟩ : Nat × List Str) => [(10, .ref (S.nm 0) 1 0 1), (11, own S 1 out), (12, intA j)]) (fun (⟨j, out⟩ : Nat × List Str) => [rowO 3 x, rowO 9 out]) (fun (⟨j, out⟩ : Nat × List Str) => j ≤ x.length ∧ argF w x [] = argF w (x.drop j) out ∧ out.length ≤ j) (fun (⟨j, out⟩ : Nat × List Str) => x.length - j) ((0, [])) ?h07 ?hn7 ?rd7; case hn7 => (intro s; first | rfl | (rcases s with ⟨_, _⟩; rfl) | (rcases s with ⟨_, _, _⟩; rfl) | (rcases s with ⟨_, _, _, _⟩; rfl) | (rcases s with ⟨_, _, _, _, _⟩; rfl)))
  · simp (maxSteps := 900000) (disch := omega) only [go_sem, Nat.reduceEqDiff, ↓reduceIte, reduceCtorEq, Nat.reduceAdd, Nat.reduceMul, Int.reduceToNat, List.reduceReplicate, Nat.reduceLeDiff, Nat.reduceLT, Int.reduceLT, Int.reduceLE, Int.reduceEq]
    subst hx
    exact ⟨Nat.zero_le _, rfl⟩
  rintro ⟨j, out⟩ ⟨h1, h2, h3⟩
  replace h1 : j ≤ x.length := h1
  replace h2 : argF w x [] = argF w (x.drop j) out := h2
  replace h3 : out.length ≤ j := h3
  have hl : x.length = 1 := by rw [hx]; rfl
  by_cases hj : j < x.length
  · rw [argF_drop hj] at h2
    have hb := hxb _ (nth_mem hj)
    repeat' (first | with_reducible refine inw ?_ | simp (maxSteps := 900000) (disch := omega) only [go_sem, Nat.reduceEqDiff, ↓reduceIte, reduceCtorEq, Nat.reduceAdd, Nat.reduceMul, Int.reduceToNat, List.reduceReplicate, Nat.reduceLeDiff, Nat.reduceLT, Int.reduceLT, Int.reduceLE, Int.reduceEq] | with_reducible refine giv_intro fun _h => ?_ | with_reducible refine alt_intro ?_ fun _h => ?_ | with_reducible refine pickD_nil ?_ | (with_reducible refine brc (fun _h => ?_) fun _h => ?_) <;> first | (exfalso; omega) | simp only [decide_eq_false _h] | simp only [(_h : (_ : Bool) = _)] | simp only [decide_eq_true _h] | skip)
    all_goals first
      | (rw [argT_1 ⟨by assumption, by assumption⟩ (.inl (List.eq_nil_of_length_eq_zero (by omega)))] at h2
         exact ⟨(j + 1, out ++ [nth w (nth x j).toNat]), ⟨by dsimp only; omega, by dsimp only; omega, h2, by simp; omega⟩, ⟨⟨by simp, by simp⟩, by simp⟩, rfl⟩)
      | (rw [argT_1 ⟨by assumption, by assumption⟩ (.inr (by assumption))] at h2
         exact ⟨(j + 1, out ++ [nth w (nth x j).toNat]), ⟨by dsimp only; omega, by dsimp only; omega, h2, by simp; omega⟩, ⟨⟨by simp, by simp⟩, by simp⟩, rfl⟩)
      | (rw [argT_0 (by omega)] at h2
         exact ⟨(j + 1, out), ⟨by dsimp only; omega, by dsimp only; omega, h2, by simp; omega⟩, ⟨⟨by simp, by simp⟩, by simp⟩, rfl⟩)
      | (rw [argT_2 (List.ne_nil_of_length_pos (by omega)) (by assumption)] at h2
         exact ⟨(j + 1, out), ⟨by dsimp only; omega, by dsimp only; omega, h2, by simp; omega⟩, ⟨⟨by simp, by simp⟩, by simp⟩, rfl⟩)
  · rw [drop_end (by omega)] at h2
    repeat' (first | with_reducible refine inw ?_ | simp (maxSteps := 900000) (disch := omega) only [go_sem, Nat.reduceEqDiff, ↓reduceIte, reduceCtorEq, Nat.reduceAdd, Nat.reduceMul, Int.reduceToNat, List.reduceReplicate, Nat.reduceLeDiff, Nat.reduceLT, Int.reduceLT, Int.reduceLE, Int.reduceEq] | with_reducible refine giv_intro fun _h => ?_ | with_reducible refine alt_intro ?_ fun _h => ?_ | with_reducible refine pickD_nil ?_ | (with_reducible refine brc (fun _h => ?_) fun _h => ?_) <;> first | (exfalso; omega) | simp only [decide_eq_false _h] | simp only [(_h : (_ : Bool) = _)] | simp only [decide_eq_true _h] | skip)
    rw [h2]; rfl
set_option maxRecDepth 10000 in
theorem args_7 (w t : List Str) (i : Nat) (hib : i ≤ 4611686018427387904) : Fn P 68 [intA 7, sl w, sl t, intA i] (sl (argsL 7 w t i)) := by
  obtain ⟨x, hx⟩ : ∃ x : List Int, x = [(i : Int) - 1] := ⟨_, rfl⟩
  have hq : argsL 7 w t i = argF w x [] := by
    rw [hx, argsL, if_neg (by decide)]; simp [farD, nth, Int.sub_eq_add_neg]
  have hxb : ∀ y ∈ x, -2 ≤ y ∧ y ≤ 4611686018427387906 := by rw [hx]; simp; omega
  rw [hq]
  (refine fn_look s68_ok (by simp) (by intro k; simp only [go_sem, Nat.reduceEqDiff, ↓reduceIte, reduceCtorEq, Nat.reduceAdd, Nat.reduceMul, Int.reduceToNat, List.reduceReplicate, Nat.reduceLeDiff, Nat.reduceLT, Int.reduceLT, Int.reduceLE, Int.reduceEq]) fun S hS => cwp_sound _ _ _ _ ?_; simp (maxSteps := 900000) (disch := omega) only [s68, go_sem, Nat.reduceEqDiff, ↓reduceIte, reduceCtorEq, Nat.reduceAdd, Nat.reduceMul, Int.reduceToNat, List.reduceReplicate, Nat.reduceLeDiff, Nat.reduceLT, Int.reduceLT, Int.reduceLE, Int.reduceEq])
  repeat' (first | with_reducible refine inw ?_ | simp (maxSteps := 900000) (disch := omega) only [go_sem, Nat.reduceEqDiff, ↓reduceIte, reduceCtorEq, Nat.reduceAdd, Nat.reduceMul, Int.reduceToNat, List.reduceReplicate, Nat.reduceLeDiff, Nat.reduceLT, Int.reduceLT, Int.reduceLE, Int.reduceEq] | with_reducible refine giv_intro fun _h => ?_ | with_reducible refine alt_intro ?_ fun _h => ?_ | with_reducible refine pickD_nil ?_ | (with_reducible refine brc (fun _h => ?_) fun _h => ?_) <;> first | (exfalso; omega) | simp only [decide_eq_false _h] | simp only [(_h : (_ : Bool) = _)] | simp only [decide_eq_true _h] | skip)
  refine nil_row 11 9 1 (by simp (maxSteps := 900000) (disch := omega) only [go_sem, Nat.reduceEqDiff, ↓reduceIte, reduceCtorEq, Nat.reduceAdd, Nat.reduceMul, Int.reduceToNat, List.reduceReplicate, Nat.reduceLeDiff, Nat.reduceLT, Int.reduceLT, Int.reduceLE, Int.reduceEq]) ?_
  (refine loopC hS [9] (by simp only [go_sem, Nat.reduceEqDiff, ↓reduceIte, reduceCtorEq, Nat.reduceAdd, Nat.reduceMul, Int.reduceToNat, List.reduceReplicate, Nat.reduceLeDiff, Nat.reduceLT, Int.reduceLT, Int.reduceLE, Int.reduceEq]; try rfl) (fun (⟨j, out⟩ : Nat × List Str) => [(10, .ref (S.nm 0) 1 0 1), (11, own S 1 out), (12, intA j)]) (fun (⟨j, out⟩ : Nat × List Str) => [rowO 3 x, rowO 9 out]) (fun (⟨j, out⟩ : Nat × List Str) => j ≤ x.length ∧ argF w x [] = argF w (x.drop j) out ∧ out.length ≤ j) (fun (⟨j, out⟩ : Nat × List Str) => x.length - j) ((0, [])) ?h08 ?hn8 ?rd8; case hn8 => (intro s; first | rfl | (rcases s with ⟨_, _⟩; rfl) | (rcases s with ⟨_, _, _⟩; rfl) | (rcases s with ⟨_, _, _, _⟩; rfl) | (rcases s with ⟨_, _, _, _, _⟩; rfl)))
  · simp (maxSteps := 900000) (disch := omega) only [go_sem, Nat.reduceEqDiff, ↓reduceIte, reduceCtorEq, Nat.reduceAdd, Nat.reduceMul, Int.reduceToNat, List.reduceReplicate, Nat.reduceLeDiff, Nat.reduceLT, Int.reduceLT, Int.reduceLE, Int.reduceEq]
    subst hx
    exact ⟨Nat.zero_le _, rfl⟩
  rintro ⟨j, out⟩ ⟨h1, h2, h3⟩
  replace h1 : j ≤ x.length := h1
  replace h2 : argF w x [] = argF w (x.drop j) out := h2
  replace h3 : out.length ≤ j := h3
  have hl : x.length = 1 := by rw [hx]; rfl
  by_cases hj : j < x.length
  · rw [argF_drop hj] at h2
    have hb := hxb _ (nth_mem hj)
    repeat' (first | with_reducible refine inw ?_ | simp (maxSteps := 900000) (disch := omega) only [go_sem, Nat.reduceEqDiff, ↓reduceIte, reduceCtorEq, Nat.reduceAdd, Nat.reduceMul, Int.reduceToNat, List.reduceReplicate, Nat.reduceLeDiff, Nat.reduceLT, Int.reduceLT, Int.reduceLE, Int.reduceEq] | with_reducible refine giv_intro fun _h => ?_ | with_reducible refine alt_intro ?_ fun _h => ?_ | with_reducible refine pickD_nil ?_ | (with_reducible refine brc (fun _h => ?_) fun _h => ?_) <;> first | (exfalso; omega) | simp only [decide_eq_false _h] | simp only [(_h : (_ : Bool) = _)] | simp only [decide_eq_true _h] | skip)
    all_goals first
      | (rw [argT_1 ⟨by assumption, by assumption⟩ (.inl (List.eq_nil_of_length_eq_zero (by omega)))] at h2
         exact ⟨(j + 1, out ++ [nth w (nth x j).toNat]), ⟨by dsimp only; omega, by dsimp only; omega, h2, by simp; omega⟩, ⟨⟨by simp, by simp⟩, by simp⟩, rfl⟩)
      | (rw [argT_1 ⟨by assumption, by assumption⟩ (.inr (by assumption))] at h2
         exact ⟨(j + 1, out ++ [nth w (nth x j).toNat]), ⟨by dsimp only; omega, by dsimp only; omega, h2, by simp; omega⟩, ⟨⟨by simp, by simp⟩, by simp⟩, rfl⟩)
      | (rw [argT_0 (by omega)] at h2
         exact ⟨(j + 1, out), ⟨by dsimp only; omega, by dsimp only; omega, h2, by simp; omega⟩, ⟨⟨by simp, by simp⟩, by simp⟩, rfl⟩)
      | (rw [argT_2 (List.ne_nil_of_length_pos (by omega)) (by assumption)] at h2
         exact ⟨(j + 1, out), ⟨by dsimp only; omega, by dsimp only; omega, h2, by simp; omega⟩, ⟨⟨by simp, by simp⟩, by simp⟩, rfl⟩)
  · rw [drop_end (by omega)] at h2
    repeat' (first | with_reducible refine inw ?_ | simp (maxSteps := 900000) (disch := omega) only [go_sem, Nat.reduceEqDiff, ↓reduceIte, reduceCtorEq, Nat.reduceAdd, Nat.reduceMul, Int.reduceToNat, List.reduceReplicate, Nat.reduceLeDiff, Nat.reduceLT, Int.reduceLT, Int.reduceLE, Int.reduceEq] | with_reducible refine giv_intro fun _h => ?_ | with_reducible refine alt_intro ?_ fun _h => ?_ | with_reducible refine pickD_nil ?_ | (with_reducible refine brc (fun _h => ?_) fun _h => ?_) <;> first | (exfalso; omega) | simp only [decide_eq_false _h] | simp only [(_h : (_ : Bool) = _)] | simp only [decide_eq_true _h] | skip)
    rw [h2]; rfl
set_option maxRecDepth 10000 in
theorem args_8 (w t : List Str) (i : Nat) (hib : i ≤ 4611686018427387904) : Fn P 68 [intA 8, sl w, sl t, intA i] (sl (argsL 8 w t i)) := by
  obtain ⟨x, hx⟩ : ∃ x : List Int, x = [(i : Int) + 1] := ⟨_, rfl⟩
  have hq : argsL 8 w t i = argF w x [] := by
    rw [hx, argsL, if_neg (by decide)]; simp [farD, nth, Int.sub_eq_add_neg]
  have hxb : ∀ y ∈ x, -2 ≤ y ∧ y ≤ 4611686018427387906 := by rw [hx]; simp; omega
  rw [hq]
  (refine fn_look s68_ok (by simp) (by intro k; simp only [go_sem, Nat.reduceEqDiff, ↓reduceIte, reduceCtorEq, Nat.reduceAdd, Nat.reduceMul, Int.reduceToNat, List.reduceReplicate, Nat.reduceLeDiff, Nat.reduceLT, Int.reduceLT, Int.reduceLE, Int.reduceEq]) fun S hS => cwp_sound _ _ _ _ ?_; simp (maxSteps := 900000) (disch := omega) only [s68, go_sem, Nat.reduceEqDiff, ↓reduceIte, reduceCtorEq, Nat.reduceAdd, Nat.reduceMul, Int.reduceToNat, List.reduceReplicate, Nat.reduceLeDiff, Nat.reduceLT, Int.reduceLT, Int.reduceLE, Int.reduceEq])
  repeat' (first | with_reducible refine inw ?_ | simp (maxSteps := 900000) (disch := omega) only [go_sem, Nat.reduceEqDiff, ↓reduceIte, reduceCtorEq, Nat.reduceAdd, Nat.reduceMul, Int.reduceToNat, List.reduceReplicate, Nat.reduceLeDiff, Nat.reduceLT, Int.reduceLT, Int.reduceLE, Int.reduceEq] | with_reducible refine giv_intro fun _h => ?_ | with_reducible refine alt_intro ?_ fun _h => ?_ | with_reducible refine pickD_nil ?_ | (with_reducible refine brc (fun _h => ?_) fun _h => ?_) <;> first | (exfalso; omega) | simp only [decide_eq_false _h] | simp only [(_h : (_ : Bool) = _)] | simp only [decide_eq_true _h] | skip)
  refine nil_row 11 9 1 (by simp (maxSteps := 900000) (disch := omega) only [go_sem, Nat.reduceEqDiff, ↓reduceIte, reduceCtorEq, Nat.reduceAdd, Nat.reduceMul, Int.reduceToNat, List.reduceReplicate, Nat.reduceLeDiff, Nat.reduceLT, Int.reduceLT, Int.reduceLE, Int.reduceEq]) ?_
  (refine loopC hS [9] (by simp only [go_sem, Nat.reduceEqDiff, ↓reduceIte, reduceCtorEq, Nat.reduceAdd, Nat.reduceMul, Int.reduceToNat, List.reduceReplicate, Nat.reduceLeDiff, Nat.reduceLT, Int.reduceLT, Int.reduceLE, Int.reduceEq]; try rfl) (fun (⟨j, out⟩ : Nat × List Str) => [(10, .ref (S.nm 0) 1 0 1), (11, own S 1 out), (12, intA j)]) (fun (⟨j, out⟩ : Nat × List Str) => [rowO 3 x, rowO 9 out]) (fun (⟨j, out⟩ : Nat × List Str) => j ≤ x.length ∧ argF w x [] = argF w (x.drop j) out ∧ out.length ≤ j) (fun (⟨j, out⟩ : Nat × List Str) => x.length - j) ((0, [])) ?h09 ?hn9 ?rd9; case hn9 => (intro s; first | rfl | (rcases s with ⟨_, _⟩; rfl) | (rcases s with ⟨_, _, _⟩; rfl) | (rcases s with ⟨_, _, _, _⟩; rfl) | (rcases s with ⟨_, _, _, _, _⟩; rfl)))
  · simp (maxSteps := 900000) (disch := omega) only [go_sem, Nat.reduceEqDiff, ↓reduceIte, reduceCtorEq, Nat.reduceAdd, Nat.reduceMul, Int.reduceToNat, List.reduceReplicate, Nat.reduceLeDiff, Nat.reduceLT, Int.reduceLT, Int.reduceLE, Int.reduceEq]
    subst hx
    exact ⟨Nat.zero_le _, rfl⟩
  rintro ⟨j, out⟩ ⟨h1, h2, h3⟩
  replace h1 : j ≤ x.length := h1
  replace h2 : argF w x [] = argF w (x.drop j) out := h2
  replace h3 : out.length ≤ j := h3
  have hl : x.length = 1 := by rw [hx]; rfl
  by_cases hj : j < x.length
  · rw [argF_drop hj] at h2
    have hb := hxb _ (nth_mem hj)
    repeat' (first | with_reducible refine inw ?_ | simp (maxSteps := 900000) (disch := omega) only [go_sem, Nat.reduceEqDiff, ↓reduceIte, reduceCtorEq, Nat.reduceAdd, Nat.reduceMul, Int.reduceToNat, List.reduceReplicate, Nat.reduceLeDiff, Nat.reduceLT, Int.reduceLT, Int.reduceLE, Int.reduceEq] | with_reducible refine giv_intro fun _h => ?_ | with_reducible refine alt_intro ?_ fun _h => ?_ | with_reducible refine pickD_nil ?_ | (with_reducible refine brc (fun _h => ?_) fun _h => ?_) <;> first | (exfalso; omega) | simp only [decide_eq_false _h] | simp only [(_h : (_ : Bool) = _)] | simp only [decide_eq_true _h] | skip)
    all_goals first
      | (rw [argT_1 ⟨by assumption, by assumption⟩ (.inl (List.eq_nil_of_length_eq_zero (by omega)))] at h2
         exact ⟨(j + 1, out ++ [nth w (nth x j).toNat]), ⟨by dsimp only; omega, by dsimp only; omega, h2, by simp; omega⟩, ⟨⟨by simp, by simp⟩, by simp⟩, rfl⟩)
      | (rw [argT_1 ⟨by assumption, by assumption⟩ (.inr (by assumption))] at h2
         exact ⟨(j + 1, out ++ [nth w (nth x j).toNat]), ⟨by dsimp only; omega, by dsimp only; omega, h2, by simp; omega⟩, ⟨⟨by simp, by simp⟩, by simp⟩, rfl⟩)
      | (rw [argT_0 (by omega)] at h2
         exact ⟨(j + 1, out), ⟨by dsimp only; omega, by dsimp only; omega, h2, by simp; omega⟩, ⟨⟨by simp, by simp⟩, by simp⟩, rfl⟩)
      | (rw [argT_2 (List.ne_nil_of_length_pos (by omega)) (by assumption)] at h2
         exact ⟨(j + 1, out), ⟨by dsimp only; omega, by dsimp only; omega, h2, by simp; omega⟩, ⟨⟨by simp, by simp⟩, by simp⟩, rfl⟩)
  · rw [drop_end (by omega)] at h2
    repeat' (first | with_reducible refine inw ?_ | simp (maxSteps := 900000) (disch := omega) only [go_sem, Nat.reduceEqDiff, ↓reduceIte, reduceCtorEq, Nat.reduceAdd, Nat.reduceMul, Int.reduceToNat, List.reduceReplicate, Nat.reduceLeDiff, Nat.reduceLT, Int.reduceLT, Int.reduceLE, Int.reduceEq] | with_reducible refine giv_intro fun _h => ?_ | with_reducible refine alt_intro ?_ fun _h => ?_ | with_reducible refine pickD_nil ?_ | (with_reducible refine brc (fun _h => ?_) fun _h => ?_) <;> first | (exfalso; omega) | simp only [decide_eq_false _h] | simp only [(_h : (_ : Bool) = _)] | simp only [decide_eq_true _h] | skip)
    rw [h2]; rfl
theorem args_ok (k : Int) (w t : List Str) (i : Nat) (hib : i ≤ 4611686018427387904) (hk : 0 ≤ k ∧ k ≤ 9) : Fn P 68 [intA k, sl w, sl t, intA i] (sl (argsL k w t i)) := by
  have hq : k = 0 ∨ k = 1 ∨ k = 2 ∨ k = 3 ∨ k = 4 ∨ k = 5 ∨ k = 6 ∨ k = 7 ∨ k = 8 ∨ k = 9 := by omega
  rcases hq with rfl | rfl | rfl | rfl | rfl | rfl | rfl | rfl | rfl | rfl
  · exact args_0 w t i hib
  · exact args_1 w t i hib
  · exact args_2 w t i hib
  · exact args_3 w t i hib
  · exact args_4 w t i hib
  · exact args_5 w t i hib
  · exact args_6 w t i hib
  · exact args_7 w t i hib
  · exact args_8 w t i hib
  · rw [argsL, if_pos rfl]
    (refine fn_look s68_ok (by simp) (by intro k; simp only [go_sem, Nat.reduceEqDiff, ↓reduceIte, reduceCtorEq, Nat.reduceAdd, Nat.reduceMul, Int.reduceToNat, List.reduceReplicate, Nat.reduceLeDiff, Nat.reduceLT, Int.reduceLT, Int.reduceLE, Int.reduceEq]) fun S hS => cwp_sound _ _ _ _ ?_; simp (maxSteps := 900000) (disch := omega) only [s68, go_sem, Nat.reduceEqDiff, ↓reduceIte, reduceCtorEq, Nat.reduceAdd, Nat.reduceMul, Int.reduceToNat, List.reduceReplicate, Nat.reduceLeDiff, Nat.reduceLT, Int.reduceLT, Int.reduceLE, Int.reduceEq])
    repeat' (first | with_reducible refine inw ?_ | simp (maxSteps := 900000) (disch := omega) only [go_sem, Nat.reduceEqDiff, ↓reduceIte, reduceCtorEq, Nat.reduceAdd, Nat.reduceMul, Int.reduceToNat, List.reduceReplicate, Nat.reduceLeDiff, Nat.reduceLT, Int.reduceLT, Int.reduceLE, Int.reduceEq] | with_reducible refine giv_intro fun _h => ?_ | with_reducible refine alt_intro ?_ fun _h => ?_ | with_reducible refine pickD_nil ?_ | (with_reducible refine brc (fun _h => ?_) fun _h => ?_) <;> first | (exfalso; omega) | simp only [decide_eq_false _h] | simp only [(_h : (_ : Bool) = _)] | simp only [decide_eq_true _h] | skip)
    rfl
end Go.Proofs.Ytapgimibdamjoaa.Ev

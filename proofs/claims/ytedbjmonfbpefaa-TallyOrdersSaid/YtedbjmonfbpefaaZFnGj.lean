/- The law TallyOrders. -/
import Derived.Test.YtedbjmonfbpefaaZFnGi
set_option linter.unusedVariables false
set_option linter.unusedSimpArgs false
namespace Go.Proofs.Ytedbjmonfbpefaa.Ev
open Go Go.Proofs

/-- ablaut/ablautlaw27.TallyOrders: 3 parameters, 0 captured -/
def s12 : SC := .seq (.reg [o1 6 (.mv (cB false))])
  (.seq (.seq (.reg [o1 17 (.mv (.t 0)),
     o1 18 (.call (.f 30) [(.t 17)]),
     o1 19 (.bin .gtr (.t 18) (cI 400000)),
     o1 20 (.mv (.t 19)),
     oF 21 (.mv (.t 1)) 20,
     oF 22 (.call (.f 30) [(.t 21)]) 20,
     oF 23 (.bin .gtr (.t 22) (cI 400000)) 20,
     o1 24 (.pick (.t 20) (cB true) (.t 23)),
     o1 25 (.mv (.t 24)),
     oF 26 (.mv (.t 2)) 25,
     oF 27 (.call (.f 30) [(.t 26)]) 25,
     oF 28 (.bin .gtr (.t 27) (cI 400000)) 25,
     o1 29 (.pick (.t 25) (cB true) (.t 28))])
    (.cond (.t 29) (.seq (.reg [o1 30 (.call (.f 17) []),
       o1 6 (.mv (.t 30))])
      (.ret)) (.skip)))
   (.seq (.reg [o1 32 (.mv (.t 0)),
     o1 33 (.mv (.t 1)),
     o1 34 (.call (.f 40) [(.t 32), (.t 33)]),
     o1 31 (.mv (.t 34)),
     o1 35 (.ext (.t 31) 0),
     o1 36 (.ext (.t 31) 1),
     o1 7 (.mv (.t 35)),
     o1 8 (.mv (.t 36))])
    (.seq (.reg [o1 38 (.mv (.t 1)),
      o1 39 (.mv (.t 0)),
      o1 40 (.call (.f 40) [(.t 38), (.t 39)]),
      o1 37 (.mv (.t 40)),
      o1 41 (.ext (.t 37) 0),
      o1 42 (.ext (.t 37) 1),
      o1 9 (.mv (.t 41)),
      o1 10 (.mv (.t 42))])
     (.seq (.seq (.reg [o1 43 (.mv (.t 8)),
        o1 44 (.bin .eql (.t 43) (cI 0)),
        o1 45 (.mv (.t 44)),
        oT 46 (.mv (.t 10)) 45,
        oT 47 (.bin .neq (.t 46) (cI 0)) 45,
        oT 48 (.mv (.t 47)) 45,
        oF 49 (.mv (.t 7)) 48,
        oF 50 (.mv (.t 9)) 48,
        oF 51 (.call (.f 39) [(.t 49), (.t 50)]) 48,
        oF 52 (.un .not (.t 51)) 48,
        oT 53 (.pick (.t 48) (cB true) (.t 52)) 45,
        o1 54 (.pick (.t 45) (.t 53) (cB false))])
       (.cond (.t 54) (.seq (.reg [o1 6 (.mv (cB false))])
         (.ret)) (.skip)))
      (.seq (.reg [o1 56 (.mv (.t 7)),
        o1 57 (.mv (.t 2)),
        o1 58 (.call (.f 40) [(.t 56), (.t 57)]),
        o1 55 (.mv (.t 58)),
        o1 59 (.ext (.t 55) 0),
        o1 60 (.ext (.t 55) 1),
        o1 11 (.mv (.t 59)),
        o1 12 (.mv (.t 60))])
       (.seq (.reg [o1 62 (.mv (.t 1)),
         o1 63 (.mv (.t 2)),
         o1 64 (.call (.f 40) [(.t 62), (.t 63)]),
         o1 61 (.mv (.t 64)),
         o1 65 (.ext (.t 61) 0),
         o1 66 (.ext (.t 61) 1),
         o1 13 (.mv (.t 65)),
         o1 14 (.mv (.t 66))])
        (.seq (.reg [o1 68 (.mv (.t 0)),
          o1 69 (.mv (.t 13)),
          o1 70 (.call (.f 40) [(.t 68), (.t 69)]),
          o1 67 (.mv (.t 70)),
          o1 71 (.ext (.t 67) 0),
          o1 72 (.ext (.t 67) 1),
          o1 15 (.mv (.t 71)),
          o1 16 (.mv (.t 72))])
         (.seq (.seq (.reg [o1 73 (.mv (.t 8)),
            o1 74 (.bin .eql (.t 73) (cI 0)),
            o1 75 (.mv (.t 74)),
            oT 76 (.mv (.t 12)) 75,
            oT 77 (.bin .eql (.t 76) (cI 0)) 75,
            o1 78 (.pick (.t 75) (.t 77) (cB false)),
            o1 79 (.mv (.t 78)),
            oT 80 (.mv (.t 14)) 79,
            oT 81 (.bin .eql (.t 80) (cI 0)) 79,
            o1 82 (.pick (.t 79) (.t 81) (cB false)),
            o1 83 (.mv (.t 82)),
            oT 84 (.mv (.t 16)) 83,
            oT 85 (.bin .neq (.t 84) (cI 0)) 83,
            oT 86 (.mv (.t 85)) 83,
            oF 87 (.mv (.t 11)) 86,
            oF 88 (.mv (.t 15)) 86,
            oF 89 (.call (.f 39) [(.t 87), (.t 88)]) 86,
            oF 90 (.un .not (.t 89)) 86,
            oT 91 (.pick (.t 86) (cB true) (.t 90)) 83,
            o1 92 (.pick (.t 83) (.t 91) (cB false))])
           (.cond (.t 92) (.seq (.reg [o1 6 (.mv (cB false))])
             (.ret)) (.skip)))
          (.seq (.reg [o1 93 (.call (.f 17) []),
            o1 6 (.mv (.t 93))])
           (.ret))))))))))
theorem s12_ok : lookF Try.prog 12 = some (s12, 94, [.tmp 6]) := by kernel_rfl
set_option maxRecDepth 10000 in
theorem TallyOrders_ok (a b c : List Gram) (la : a.length ≤ 8796093022208) (lb : b.length ≤ 8796093022208) (lc : c.length ≤ 8796093022208) (ha : ∀ g ∈ a, g.1.length ≤ 8796093022208 ∧ ∀ s ∈ g.1, s.size ≤ 140737488351232) (hb : ∀ g ∈ b, g.1.length ≤ 8796093022208 ∧ ∀ s ∈ g.1, s.size ≤ 140737488351232) (hc : ∀ g ∈ c, g.1.length ≤ 8796093022208 ∧ ∀ s ∈ g.1, s.size ≤ 140737488351232) : Fn P 12 [sl a, sl b, sl c] (boolA true) := by
  have c1 := grams_ok a la ha
  have c2 := grams_ok b lb hb
  have c3 := grams_ok c lc hc
  have a1 : ∀ g ∈ a, g.1.length ≤ 8796093022208 := fun g hg => (ha g hg).1
  have b1 : ∀ g ∈ b, g.1.length ≤ 8796093022208 := fun g hg => (hb g hg).1
  have d1 : ∀ g ∈ c, g.1.length ≤ 8796093022208 := fun g hg => (hc g hg).1
  have m1 := mergeT_small a1 b1
  have m2 := mergeT_small b1 a1
  have m3 := mergeT_small b1 d1
  have c4 := tMerge_ok a b a1 b1
  have c5 := tMerge_ok b a b1 a1
  have c6 := tMerge_ok (mergeT a b).1 c m1.2 d1
  have c7 := tMerge_ok b c b1 d1
  have c8 := tMerge_ok a (mergeT b c).1 a1 m3.2
  have m4 := mergeT_small m1.2 d1
  have s1 := sameG_ok (mergeT a b).1 m1.1 m1.2
  have s2 := sameG_ok (mergeT (mergeT a b).1 c).1 m4.1 m4.2
  have q1 : (mergeT a b).2 = 0 → (mergeT b a).2 = 0 ∧ (mergeT b a).1 = (mergeT a b).1 := merge_comm
  have q2 : (mergeT a b).2 = 0 → (mergeT (mergeT a b).1 c).2 = 0 → (mergeT b c).2 = 0 → (mergeT a (mergeT b c).1).2 = 0 ∧ (mergeT a (mergeT b c).1).1 = (mergeT (mergeT a b).1 c).1 := merge_three
  generalize mergeT a (mergeT b c).1 = r5 at *
  generalize mergeT (mergeT a b).1 c = r3 at *
  generalize mergeT a b = r1 at *
  generalize mergeT b a = r2 at *
  generalize mergeT b c = r4 at *
  clear a1 b1 d1 m1 m2 m3 m4
  by_cases e1 : r1.2 = 0
  · obtain ⟨p1, p2⟩ := q1 e1
    rw [p1, p2] at c5
    rw [e1] at c4
    by_cases e2 : r3.2 = 0 ∧ r4.2 = 0
    · obtain ⟨p3, p4⟩ := q2 e1 e2.1 e2.2
      rw [p3, p4] at c8
      rw [e2.1] at c6
      rw [e2.2] at c7
      clear q1 q2
      (refine fn_look s12_ok (by simp) (by intro k; simp only [go_sem, Nat.reduceEqDiff, ↓reduceIte, reduceCtorEq, Nat.reduceAdd, Nat.reduceMul, Int.reduceToNat, List.reduceReplicate, Nat.reduceLeDiff, Nat.reduceLT, Int.reduceLT, Int.reduceLE, Int.reduceEq]) fun S hS => cwp_sound _ _ _ _ ?_; simp (maxSteps := 900000) (disch := omega) only [s12, go_sem, Nat.reduceEqDiff, ↓reduceIte, reduceCtorEq, Nat.reduceAdd, Nat.reduceMul, Int.reduceToNat, List.reduceReplicate, Nat.reduceLeDiff, Nat.reduceLT, Int.reduceLT, Int.reduceLE, Int.reduceEq])
      repeat' (first | with_reducible refine inw ?_ | simp (maxSteps := 900000) (disch := omega) only [go_sem, Nat.reduceEqDiff, ↓reduceIte, reduceCtorEq, Nat.reduceAdd, Nat.reduceMul, Int.reduceToNat, List.reduceReplicate, Nat.reduceLeDiff, Nat.reduceLT, Int.reduceLT, Int.reduceLE, Int.reduceEq] | (with_reducible apply call (c1)); (focus simp (maxSteps := 900000) (disch := omega) only [go_sem, Nat.reduceEqDiff, ↓reduceIte, reduceCtorEq, Nat.reduceAdd, Nat.reduceMul, Int.reduceToNat, List.reduceReplicate, Nat.reduceLeDiff, Nat.reduceLT, Int.reduceLT, Int.reduceLE, Int.reduceEq] <;> rfl) | (with_reducible apply call (c2)); (focus simp (maxSteps := 900000) (disch := omega) only [go_sem, Nat.reduceEqDiff, ↓reduceIte, reduceCtorEq, Nat.reduceAdd, Nat.reduceMul, Int.reduceToNat, List.reduceReplicate, Nat.reduceLeDiff, Nat.reduceLT, Int.reduceLT, Int.reduceLE, Int.reduceEq] <;> rfl) | (with_reducible apply call (c3)); (focus simp (maxSteps := 900000) (disch := omega) only [go_sem, Nat.reduceEqDiff, ↓reduceIte, reduceCtorEq, Nat.reduceAdd, Nat.reduceMul, Int.reduceToNat, List.reduceReplicate, Nat.reduceLeDiff, Nat.reduceLT, Int.reduceLT, Int.reduceLE, Int.reduceEq] <;> rfl) | (with_reducible apply call (c4)); (focus simp (maxSteps := 900000) (disch := omega) only [go_sem, Nat.reduceEqDiff, ↓reduceIte, reduceCtorEq, Nat.reduceAdd, Nat.reduceMul, Int.reduceToNat, List.reduceReplicate, Nat.reduceLeDiff, Nat.reduceLT, Int.reduceLT, Int.reduceLE, Int.reduceEq] <;> rfl) | (with_reducible apply call (c5)); (focus simp (maxSteps := 900000) (disch := omega) only [go_sem, Nat.reduceEqDiff, ↓reduceIte, reduceCtorEq, Nat.reduceAdd, Nat.reduceMul, Int.reduceToNat, List.reduceReplicate, Nat.reduceLeDiff, Nat.reduceLT, Int.reduceLT, Int.reduceLE, Int.reduceEq] <;> rfl) | (with_reducible apply call (c6)); (focus simp (maxSteps := 900000) (disch := omega) only [go_sem, Nat.reduceEqDiff, ↓reduceIte, reduceCtorEq, Nat.reduceAdd, Nat.reduceMul, Int.reduceToNat, List.reduceReplicate, Nat.reduceLeDiff, Nat.reduceLT, Int.reduceLT, Int.reduceLE, Int.reduceEq] <;> rfl) | (with_reducible apply call (c7)); (focus simp (maxSteps := 900000) (disch := omega) only [go_sem, Nat.reduceEqDiff, ↓reduceIte, reduceCtorEq, Nat.reduceAdd, Nat.reduceMul, Int.reduceToNat, List.reduceReplicate, Nat.reduceLeDiff, Nat.reduceLT, Int.reduceLT, Int.reduceLE, Int.reduceEq] <;> rfl) | (with_reducible apply call (c8)); (focus simp (maxSteps := 900000) (disch := omega) only [go_sem, Nat.reduceEqDiff, ↓reduceIte, reduceCtorEq, Nat.reduceAdd, Nat.reduceMul, Int.reduceToNat, List.reduceReplicate, Nat.reduceLeDiff, Nat.reduceLT, Int.reduceLT, Int.reduceLE, Int.reduceEq] <;> rfl) | (with_reducible apply call (s1)); (focus simp (maxSteps := 900000) (disch := omega) only [go_sem, Nat.reduceEqDiff, ↓reduceIte, reduceCtorEq, Nat.reduceAdd, Nat.reduceMul, Int.reduceToNat, List.reduceReplicate, Nat.reduceLeDiff, Nat.reduceLT, Int.reduceLT, Int.reduceLE, Int.reduceEq] <;> rfl) | (with_reducible apply call (s2)); (focus simp (maxSteps := 900000) (disch := omega) only [go_sem, Nat.reduceEqDiff, ↓reduceIte, reduceCtorEq, Nat.reduceAdd, Nat.reduceMul, Int.reduceToNat, List.reduceReplicate, Nat.reduceLeDiff, Nat.reduceLT, Int.reduceLT, Int.reduceLE, Int.reduceEq] <;> rfl) | (with_reducible apply call (known_ok)); (focus simp (maxSteps := 900000) (disch := omega) only [go_sem, Nat.reduceEqDiff, ↓reduceIte, reduceCtorEq, Nat.reduceAdd, Nat.reduceMul, Int.reduceToNat, List.reduceReplicate, Nat.reduceLeDiff, Nat.reduceLT, Int.reduceLT, Int.reduceLE, Int.reduceEq] <;> rfl) | with_reducible refine pickB_f ?_ | with_reducible refine giv_intro fun _h => ?_ | with_reducible refine alt_intro ?_ fun _h => ?_ | with_reducible refine pickD_nil ?_ | (with_reducible refine brc (fun _h => ?_) fun _h => ?_) <;> first | (exfalso; omega) | simp only [decide_eq_false _h] | simp only [(_h : (_ : Bool) = _)] | simp only [decide_eq_true _h] | skip)
    · clear q1 q2
      (refine fn_look s12_ok (by simp) (by intro k; simp only [go_sem, Nat.reduceEqDiff, ↓reduceIte, reduceCtorEq, Nat.reduceAdd, Nat.reduceMul, Int.reduceToNat, List.reduceReplicate, Nat.reduceLeDiff, Nat.reduceLT, Int.reduceLT, Int.reduceLE, Int.reduceEq]) fun S hS => cwp_sound _ _ _ _ ?_; simp (maxSteps := 900000) (disch := omega) only [s12, go_sem, Nat.reduceEqDiff, ↓reduceIte, reduceCtorEq, Nat.reduceAdd, Nat.reduceMul, Int.reduceToNat, List.reduceReplicate, Nat.reduceLeDiff, Nat.reduceLT, Int.reduceLT, Int.reduceLE, Int.reduceEq])
      repeat' (first | with_reducible refine inw ?_ | simp (maxSteps := 900000) (disch := omega) only [go_sem, Nat.reduceEqDiff, ↓reduceIte, reduceCtorEq, Nat.reduceAdd, Nat.reduceMul, Int.reduceToNat, List.reduceReplicate, Nat.reduceLeDiff, Nat.reduceLT, Int.reduceLT, Int.reduceLE, Int.reduceEq] | (with_reducible apply call (c1)); (focus simp (maxSteps := 900000) (disch := omega) only [go_sem, Nat.reduceEqDiff, ↓reduceIte, reduceCtorEq, Nat.reduceAdd, Nat.reduceMul, Int.reduceToNat, List.reduceReplicate, Nat.reduceLeDiff, Nat.reduceLT, Int.reduceLT, Int.reduceLE, Int.reduceEq] <;> rfl) | (with_reducible apply call (c2)); (focus simp (maxSteps := 900000) (disch := omega) only [go_sem, Nat.reduceEqDiff, ↓reduceIte, reduceCtorEq, Nat.reduceAdd, Nat.reduceMul, Int.reduceToNat, List.reduceReplicate, Nat.reduceLeDiff, Nat.reduceLT, Int.reduceLT, Int.reduceLE, Int.reduceEq] <;> rfl) | (with_reducible apply call (c3)); (focus simp (maxSteps := 900000) (disch := omega) only [go_sem, Nat.reduceEqDiff, ↓reduceIte, reduceCtorEq, Nat.reduceAdd, Nat.reduceMul, Int.reduceToNat, List.reduceReplicate, Nat.reduceLeDiff, Nat.reduceLT, Int.reduceLT, Int.reduceLE, Int.reduceEq] <;> rfl) | (with_reducible apply call (c4)); (focus simp (maxSteps := 900000) (disch := omega) only [go_sem, Nat.reduceEqDiff, ↓reduceIte, reduceCtorEq, Nat.reduceAdd, Nat.reduceMul, Int.reduceToNat, List.reduceReplicate, Nat.reduceLeDiff, Nat.reduceLT, Int.reduceLT, Int.reduceLE, Int.reduceEq] <;> rfl) | (with_reducible apply call (c5)); (focus simp (maxSteps := 900000) (disch := omega) only [go_sem, Nat.reduceEqDiff, ↓reduceIte, reduceCtorEq, Nat.reduceAdd, Nat.reduceMul, Int.reduceToNat, List.reduceReplicate, Nat.reduceLeDiff, Nat.reduceLT, Int.reduceLT, Int.reduceLE, Int.reduceEq] <;> rfl) | (with_reducible apply call (c6)); (focus simp (maxSteps := 900000) (disch := omega) only [go_sem, Nat.reduceEqDiff, ↓reduceIte, reduceCtorEq, Nat.reduceAdd, Nat.reduceMul, Int.reduceToNat, List.reduceReplicate, Nat.reduceLeDiff, Nat.reduceLT, Int.reduceLT, Int.reduceLE, Int.reduceEq] <;> rfl) | (with_reducible apply call (c7)); (focus simp (maxSteps := 900000) (disch := omega) only [go_sem, Nat.reduceEqDiff, ↓reduceIte, reduceCtorEq, Nat.reduceAdd, Nat.reduceMul, Int.reduceToNat, List.reduceReplicate, Nat.reduceLeDiff, Nat.reduceLT, Int.reduceLT, Int.reduceLE, Int.reduceEq] <;> rfl) | (with_reducible apply call (c8)); (focus simp (maxSteps := 900000) (disch := omega) only [go_sem, Nat.reduceEqDiff, ↓reduceIte, reduceCtorEq, Nat.reduceAdd, Nat.reduceMul, Int.reduceToNat, List.reduceReplicate, Nat.reduceLeDiff, Nat.reduceLT, Int.reduceLT, Int.reduceLE, Int.reduceEq] <;> rfl) | (with_reducible apply call (s1)); (focus simp (maxSteps := 900000) (disch := omega) only [go_sem, Nat.reduceEqDiff, ↓reduceIte, reduceCtorEq, Nat.reduceAdd, Nat.reduceMul, Int.reduceToNat, List.reduceReplicate, Nat.reduceLeDiff, Nat.reduceLT, Int.reduceLT, Int.reduceLE, Int.reduceEq] <;> rfl) | (with_reducible apply call (s2)); (focus simp (maxSteps := 900000) (disch := omega) only [go_sem, Nat.reduceEqDiff, ↓reduceIte, reduceCtorEq, Nat.reduceAdd, Nat.reduceMul, Int.reduceToNat, List.reduceReplicate, Nat.reduceLeDiff, Nat.reduceLT, Int.reduceLT, Int.reduceLE, Int.reduceEq] <;> rfl) | (with_reducible apply call (known_ok)); (focus simp (maxSteps := 900000) (disch := omega) only [go_sem, Nat.reduceEqDiff, ↓reduceIte, reduceCtorEq, Nat.reduceAdd, Nat.reduceMul, Int.reduceToNat, List.reduceReplicate, Nat.reduceLeDiff, Nat.reduceLT, Int.reduceLT, Int.reduceLE, Int.reduceEq] <;> rfl) | with_reducible refine pickB_f ?_ | with_reducible refine giv_intro fun _h => ?_ | with_reducible refine alt_intro ?_ fun _h => ?_ | with_reducible refine pickD_nil ?_ | (with_reducible refine brc (fun _h => ?_) fun _h => ?_) <;> first | (exfalso; omega) | simp only [decide_eq_false _h] | simp only [(_h : (_ : Bool) = _)] | simp only [decide_eq_true _h] | skip)
  · clear q1 q2
    (refine fn_look s12_ok (by simp) (by intro k; simp only [go_sem, Nat.reduceEqDiff, ↓reduceIte, reduceCtorEq, Nat.reduceAdd, Nat.reduceMul, Int.reduceToNat, List.reduceReplicate, Nat.reduceLeDiff, Nat.reduceLT, Int.reduceLT, Int.reduceLE, Int.reduceEq]) fun S hS => cwp_sound _ _ _ _ ?_; simp (maxSteps := 900000) (disch := omega) only [s12, go_sem, Nat.reduceEqDiff, ↓reduceIte, reduceCtorEq, Nat.reduceAdd, Nat.reduceMul, Int.reduceToNat, List.reduceReplicate, Nat.reduceLeDiff, Nat.reduceLT, Int.reduceLT, Int.reduceLE, Int.reduceEq])
    repeat' (first | with_reducible refine inw ?_ | simp (maxSteps := 900000) (disch := omega) only [go_sem, Nat.reduceEqDiff, ↓reduceIte, reduceCtorEq, Nat.reduceAdd, Nat.reduceMul, Int.reduceToNat, List.reduceReplicate, Nat.reduceLeDiff, Nat.reduceLT, Int.reduceLT, Int.reduceLE, Int.reduceEq] | (with_reducible apply call (c1)); (focus simp (maxSteps := 900000) (disch := omega) only [go_sem, Nat.reduceEqDiff, ↓reduceIte, reduceCtorEq, Nat.reduceAdd, Nat.reduceMul, Int.reduceToNat, List.reduceReplicate, Nat.reduceLeDiff, Nat.reduceLT, Int.reduceLT, Int.reduceLE, Int.reduceEq] <;> rfl) | (with_reducible apply call (c2)); (focus simp (maxSteps := 900000) (disch := omega) only [go_sem, Nat.reduceEqDiff, ↓reduceIte, reduceCtorEq, Nat.reduceAdd, Nat.reduceMul, Int.reduceToNat, List.reduceReplicate, Nat.reduceLeDiff, Nat.reduceLT, Int.reduceLT, Int.reduceLE, Int.reduceEq] <;> rfl) | (with_reducible apply call (c3)); (focus simp (maxSteps := 900000) (disch := omega) only [go_sem, Nat.reduceEqDiff, ↓reduceIte, reduceCtorEq, Nat.reduceAdd, Nat.reduceMul, Int.reduceToNat, List.reduceReplicate, Nat.reduceLeDiff, Nat.reduceLT, Int.reduceLT, Int.reduceLE, Int.reduceEq] <;> rfl) | (with_reducible apply call (c4)); (focus simp (maxSteps := 900000) (disch := omega) only [go_sem, Nat.reduceEqDiff, ↓reduceIte, reduceCtorEq, Nat.reduceAdd, Nat.reduceMul, Int.reduceToNat, List.reduceReplicate, Nat.reduceLeDiff, Nat.reduceLT, Int.reduceLT, Int.reduceLE, Int.reduceEq] <;> rfl) | (with_reducible apply call (c5)); (focus simp (maxSteps := 900000) (disch := omega) only [go_sem, Nat.reduceEqDiff, ↓reduceIte, reduceCtorEq, Nat.reduceAdd, Nat.reduceMul, Int.reduceToNat, List.reduceReplicate, Nat.reduceLeDiff, Nat.reduceLT, Int.reduceLT, Int.reduceLE, Int.reduceEq] <;> rfl) | (with_reducible apply call (c6)); (focus simp (maxSteps := 900000) (disch := omega) only [go_sem, Nat.reduceEqDiff, ↓reduceIte, reduceCtorEq, Nat.reduceAdd, Nat.reduceMul, Int.reduceToNat, List.reduceReplicate, Nat.reduceLeDiff, Nat.reduceLT, Int.reduceLT, Int.reduceLE, Int.reduceEq] <;> rfl) | (with_reducible apply call (c7)); (focus simp (maxSteps := 900000) (disch := omega) only [go_sem, Nat.reduceEqDiff, ↓reduceIte, reduceCtorEq, Nat.reduceAdd, Nat.reduceMul, Int.reduceToNat, List.reduceReplicate, Nat.reduceLeDiff, Nat.reduceLT, Int.reduceLT, Int.reduceLE, Int.reduceEq] <;> rfl) | (with_reducible apply call (c8)); (focus simp (maxSteps := 900000) (disch := omega) only [go_sem, Nat.reduceEqDiff, ↓reduceIte, reduceCtorEq, Nat.reduceAdd, Nat.reduceMul, Int.reduceToNat, List.reduceReplicate, Nat.reduceLeDiff, Nat.reduceLT, Int.reduceLT, Int.reduceLE, Int.reduceEq] <;> rfl) | (with_reducible apply call (s1)); (focus simp (maxSteps := 900000) (disch := omega) only [go_sem, Nat.reduceEqDiff, ↓reduceIte, reduceCtorEq, Nat.reduceAdd, Nat.reduceMul, Int.reduceToNat, List.reduceReplicate, Nat.reduceLeDiff, Nat.reduceLT, Int.reduceLT, Int.reduceLE, Int.reduceEq] <;> rfl) | (with_reducible apply call (s2)); (focus simp (maxSteps := 900000) (disch := omega) only [go_sem, Nat.reduceEqDiff, ↓reduceIte, reduceCtorEq, Nat.reduceAdd, Nat.reduceMul, Int.reduceToNat, List.reduceReplicate, Nat.reduceLeDiff, Nat.reduceLT, Int.reduceLT, Int.reduceLE, Int.reduceEq] <;> rfl) | (with_reducible apply call (known_ok)); (focus simp (maxSteps := 900000) (disch := omega) only [go_sem, Nat.reduceEqDiff, ↓reduceIte, reduceCtorEq, Nat.reduceAdd, Nat.reduceMul, Int.reduceToNat, List.reduceReplicate, Nat.reduceLeDiff, Nat.reduceLT, Int.reduceLT, Int.reduceLE, Int.reduceEq] <;> rfl) | with_reducible refine pickB_f ?_ | with_reducible refine giv_intro fun _h => ?_ | with_reducible refine alt_intro ?_ fun _h => ?_ | with_reducible refine pickD_nil ?_ | (with_reducible refine brc (fun _h => ?_) fun _h => ?_) <;> first | (exfalso; omega) | simp only [decide_eq_false _h] | simp only [(_h : (_ : Bool) = _)] | simp only [decide_eq_true _h] | skip)
end Go.Proofs.Ytedbjmonfbpefaa.Ev

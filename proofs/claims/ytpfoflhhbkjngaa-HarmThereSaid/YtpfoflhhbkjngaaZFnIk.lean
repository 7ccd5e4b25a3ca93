/- What is joined is split so again: the law. -/
import Derived.Test.YtpfoflhhbkjngaaZFnIi
set_option linter.unusedVariables false
set_option linter.unusedSimpArgs false
namespace Go.Proofs.Ytpfoflhhbkjngaa.Ev
open Go Go.Proofs

theorem wordErr_iff {w : List Str} : wordErr w = 0 ↔ w.length ≤ 60 ∧ ∀ x ∈ w, x.size ≤ 16 ∧ okText x = true ∧ x.size ≠ 0 := by
  unfold wordErr
  constructor
  · intro h
    split at h
    · cases h
    · rename_i h1
      split at h
      · cases h
      · rename_i h2
        refine ⟨by omega, fun x hx => ?_⟩
        have e1 : w.any (fun s => decide (16 < s.size)) = false := by
          cases e : w.any (fun s => decide (16 < s.size))
          · rfl
          · exact absurd (.inr e) h1
        have e2 := List.any_eq_false.1 (Bool.not_eq_true _ ▸ h2) x hx
        simp only [Bool.not_eq_true', Bool.not_eq_false, Bool.and_eq_true, decide_eq_true_eq] at e2
        exact ⟨no_long e1 hx, e2.1, e2.2⟩
  · rintro ⟨h1, h2⟩
    rw [if_neg, if_neg]
    · intro h
      obtain ⟨x, hx, h⟩ := List.any_eq_true.1 h
      obtain ⟨_, a, b⟩ := h2 x hx
      simp [a, b] at h
    · rintro (h | h)
      · omega
      · obtain ⟨x, hx, h⟩ := List.any_eq_true.1 h
        have := (h2 x hx).1
        simp at h; omega
theorem join_good {l : List Joint} {a b : List Str} (hj : jntW l = 0) (ha : wordErr a = 0) (hb : wordErr b = 0) (hl : (joinL l a b).length ≤ 60) : wordErr (joinL l a b) = 0 := by
  obtain ⟨_, _, h3⟩ := bestJ_ends a b l
  refine wordErr_iff.2 ⟨hl, fun x hx => ?_⟩
  simp only [joinL, List.mem_append] at hx
  rcases hx with hx | hx | hx
  · exact (wordErr_iff.1 ha).2 x (List.mem_of_mem_take hx)
  · rcases h3 with h3 | h3
    · rw [h3] at hx; cases hx
    · have h4 := jntW_mem hj _ h3
      have h5 : wordErr (bestJ a b l).2.2 = 0 := by
        simp only [jW, wordsErr] at h4
        split at h4
        · contradiction
        · split at h4
          · contradiction
          · split at h4
            · contradiction
            · omega
      exact (wordErr_iff.1 h5).2 x hx
  · exact (wordErr_iff.1 hb).2 x (List.mem_of_mem_drop hx)
/-- What the law needs. -/
theorem there_law {l : List Joint} {a b : List Str} (ha : 0 < a.length) (hb : 0 < b.length) (h : sandE l a b = 0) (hl : (sandV l a b).length ≤ 14) : (unT l (sandV l a b)).2 = 0 ∧ (a, b) ∈ (unT l (sandV l a b)).1 := by
  by_cases h0 : firstE [jntErr l, wordsErr [a, b]] = 0
  · have hV : sandV l a b = heldV (joinL l a b) := by rw [sandV, if_neg (by simpa using h0)]
    have hE : heldE (joinL l a b) = 0 := by rw [sandE, if_neg (by simpa using h0)] at h; exact h
    obtain ⟨h1, h2⟩ := two_zero h0
    obtain ⟨w1, w2⟩ := wordsErr_two.1 h2
    have hv : heldV (joinL l a b) = joinL l a b := by
      unfold heldE at hE; unfold heldV
      split <;> simp_all
    rw [hV, hv] at hl ⊢
    have hjw : jntW l = 0 := by
      unfold jntErr at h1
      split at h1
      · cases h1
      · split at h1
        · rename_i q; exact absurd h1 q
        · rename_i q; omega
    have hg := join_good hjw w1 w2 (by omega)
    have hg2 : wordsErr [joinL l a b] = 0 := by simp [wordsErr, hg]
    rw [unT, if_neg (by omega), if_neg (by omega), if_neg (by omega)]
    exact ⟨rfl, there_in rfl ha hb (wordErr_iff.1 w1).1 (wordErr_iff.1 w2).1⟩
  · rw [sandE, if_pos h0] at h
    exact absurd h h0
theorem pr_0 {t : List Pr} {i : Nat} (h : i < t.length) : (cellsL t)[i * 2]? = some (sl (nth t i).1) := by
  have : ((cellsL t).drop (i * 2))[0]? = some (sl (nth t i).1) := by rw [cellsL_drop, nth_drop h]; rfl
  rwa [List.getElem?_drop] at this
theorem pr_1 {t : List Pr} {i : Nat} (h : i < t.length) : (cellsL t)[i * 2 + 1]? = some (sl (nth t i).2) := by
  have : ((cellsL t).drop (i * 2))[1]? = some (sl (nth t i).2) := by rw [cellsL_drop, nth_drop h]; rfl
  rwa [List.getElem?_drop] at this
/-- ablaut/ablautlaw13.HarmThere: 3 parameters, 0 captured -/
def s15 : SC := .seq (.reg [o1 6 (.mv (cB false))])
  (.seq (.seq (.reg [o1 12 (.mv (.t 0)),
     o1 13 (.call (.f 30) [(.t 12)]),
     o1 14 (.bin .gtr (.t 13) (cI 32000)),
     o1 15 (.mv (.t 14)),
     oF 16 (.mv (.t 1)) 15,
     oF 17 (.mv (.t 2)) 15,
     oF 18 (.buildSl 22 1 2 [(.slice none 0 0)] [(0, 1, (.t 16)), (1, 1, (.t 17))]) 15,
     oF 19 (.call (.f 16) [(.t 18)]) 15,
     oF 20 (.bin .gtr (.t 19) (cI 32000)) 15,
     o1 21 (.pick (.t 15) (cB true) (.t 20)),
     o1 22 (.mv (.t 21)),
     oF 23 (.mv (.t 1)) 22,
     oF 24 (.lenL (.t 23)) 22,
     oF 25 (.bin .eql (.t 24) (cI 0)) 22,
     o1 26 (.pick (.t 22) (cB true) (.t 25)),
     o1 27 (.mv (.t 26)),
     oF 28 (.mv (.t 2)) 27,
     oF 29 (.lenL (.t 28)) 27,
     oF 30 (.bin .eql (.t 29) (cI 0)) 27,
     o1 31 (.pick (.t 27) (cB true) (.t 30))])
    (.cond (.t 31) (.seq (.reg [o1 32 (.call (.f 17) []),
       o1 6 (.mv (.t 32))])
      (.ret)) (.skip)))
   (.seq (.reg [o1 34 (.mv (.t 0)),
     o1 35 (.mv (.t 1)),
     o1 36 (.mv (.t 2)),
     o1 37 (.call (.f 31) [(.t 34), (.t 35), (.t 36)]),
     o1 33 (.mv (.t 37)),
     o1 38 (.ext (.t 33) 0),
     o1 39 (.ext (.t 33) 1),
     o1 7 (.mv (.t 38)),
     o1 8 (.mv (.t 39))])
    (.seq (.seq (.reg [o1 40 (.mv (.t 8)),
       o1 41 (.bin .neq (.t 40) (cI 0)),
       o1 42 (.mv (.t 41)),
       oF 43 (.mv (.t 7)) 42,
       oF 44 (.lenL (.t 43)) 42,
       oF 45 (.bin .gtr (.t 44) (cI 14)) 42,
       o1 46 (.pick (.t 42) (cB true) (.t 45))])
      (.cond (.t 46) (.seq (.reg [o1 47 (.call (.f 17) []),
         o1 6 (.mv (.t 47))])
        (.ret)) (.skip)))
     (.seq (.reg [o1 49 (.mv (.t 0)),
       o1 50 (.mv (.t 7)),
       o1 51 (.call (.f 44) [(.t 49), (.t 50)]),
       o1 48 (.mv (.t 51)),
       o1 52 (.ext (.t 48) 0),
       o1 53 (.ext (.t 48) 1),
       o1 9 (.mv (.t 52)),
       o1 10 (.mv (.t 53))])
      (.seq (.seq (.reg [o1 11 (.mv (cI 0))])
        (.block 0 (.loop (.seq (.seq (.reg [o1 54 (.mv (.t 11)),
             o1 55 (.mv (.t 9)),
             o1 56 (.lenL (.t 55)),
             o1 57 (.bin .lss (.t 54) (.t 56)),
             o1 58 (.mv (.t 57)),
             oT 59 (.mv (.t 10)) 58,
             oT 60 (.bin .eql (.t 59) (cI 0)) 58,
             o1 61 (.pick (.t 58) (.t 60) (cB false))])
            (.cond (.t 61) (.skip) (.exit 0)))
           (.seq (.block 1 (.seq (.reg [o1 64 (.mv (.t 9)),
               o1 65 (.mv (.t 11)),
               o1 66 (.iaddr 2 (.t 64) (.t 65)),
               o1 67 (.iaddrA 2 1 (.t 66) (cI 0)),
               o1 68 (.load none (.t 67)),
               o1 69 (.mv (.t 1)),
               o1 70 (.call (.f 22) [(.t 68), (.t 69)]),
               o1 71 (.mv (.t 70)),
               oT 72 (.mv (.t 9)) 71,
               oT 73 (.mv (.t 11)) 71,
               oT 74 (.iaddr 2 (.t 72) (.t 73)) 71,
               oT 75 (.iaddrA 2 1 (.t 74) (cI 1)) 71,
               oT 76 (.load none (.t 75)) 71,
               oT 77 (.mv (.t 2)) 71,
               oT 78 (.call (.f 22) [(.t 76), (.t 77)]) 71,
               o1 79 (.pick (.t 71) (.t 78) (cB false))])
              (.cond (.t 79) (.seq (.reg [o1 80 (.call (.f 17) []),
                 o1 6 (.mv (.t 80))])
                (.ret)) (.skip))))
            (.reg [o1 62 (.mv (.t 11)),
             o1 63 (.bin .add (.t 62) (cI 1)),
             o1 11 (.mv (.t 63))]))))))
       (.seq (.reg [o1 6 (.mv (cB false))])
        (.ret)))))))
theorem s15_ok : lookF Try.prog 15 = some (s15, 81, [.tmp 6]) := by kernel_rfl
set_option maxHeartbeats 1000000 in
theorem HarmThere_ok (l : List Joint) (a b : List Str) : Fn P 15 [sl l, sl a, sl b] (boolA true) := by
  have k1 := hSandhi_ok l a b
  have k2 := hUnsandhi_ok l (sandV l a b)
  have hL := there_law (l := l) (a := a) (b := b)
  generalize unT l (sandV l a b) = T at *
  obtain ⟨t, te⟩ := T
  dsimp only at *
  generalize sandV l a b = w at *
  generalize sandE l a b = we at *
  by_cases hc : 0 < a.length ∧ 0 < b.length ∧ we = 0 ∧ w.length ≤ 14
  · obtain ⟨q1, q2, q3, q4⟩ := hc
    obtain ⟨r1, r2⟩ := hL q1 q2 q3 q4
    clear hL
    subst r1
    subst q3
    (refine fn_look s15_ok (by simp) (by intro k; simp only [go_sem, Nat.reduceEqDiff, ↓reduceIte, reduceCtorEq, Nat.reduceAdd, Nat.reduceMul, Int.reduceToNat, List.reduceReplicate, Nat.reduceLeDiff, Nat.reduceLT, Int.reduceLT, Int.reduceLE, Int.reduceEq]) fun S hS => cwp_sound _ _ _ _ ?_; simp (maxSteps := 900000) (disch := omega) only [s15, go_sem, Nat.reduceEqDiff, ↓reduceIte, reduceCtorEq, Nat.reduceAdd, Nat.reduceMul, Int.reduceToNat, List.reduceReplicate, Nat.reduceLeDiff, Nat.reduceLT, Int.reduceLT, Int.reduceLE, Int.reduceEq])
    repeat' (first | with_reducible refine inw ?_ | simp (maxSteps := 900000) (disch := omega) only [go_sem, Nat.reduceEqDiff, ↓reduceIte, reduceCtorEq, Nat.reduceAdd, Nat.reduceMul, Int.reduceToNat, List.reduceReplicate, Nat.reduceLeDiff, Nat.reduceLT, Int.reduceLT, Int.reduceLE, Int.reduceEq] | (with_reducible apply call (known_ok)); (focus simp (maxSteps := 900000) (disch := omega) only [go_sem, Nat.reduceEqDiff, ↓reduceIte, reduceCtorEq, Nat.reduceAdd, Nat.reduceMul, Int.reduceToNat, List.reduceReplicate, Nat.reduceLeDiff, Nat.reduceLT, Int.reduceLT, Int.reduceLE, Int.reduceEq] <;> rfl) | (with_reducible apply callR (lJoints_ok l)); (focus simp (maxSteps := 900000) (disch := omega) only [go_sem, Nat.reduceEqDiff, ↓reduceIte, reduceCtorEq, Nat.reduceAdd, Nat.reduceMul, Int.reduceToNat, List.reduceReplicate, Nat.reduceLeDiff, Nat.reduceLT, Int.reduceLT, Int.reduceLE, Int.reduceEq] <;> rfl); rintro _ ⟨_, rfl⟩ | (with_reducible apply callR_lend (bytes_ok [a, b] (by simp))); (focus simp (maxSteps := 900000) (disch := omega) only [go_sem, Nat.reduceEqDiff, ↓reduceIte, reduceCtorEq, Nat.reduceAdd, Nat.reduceMul, Int.reduceToNat, List.reduceReplicate, Nat.reduceLeDiff, Nat.reduceLT, Int.reduceLT, Int.reduceLE, Int.reduceEq] <;> rfl); (focus (rintro _ ⟨_, rfl⟩; rfl)); rintro _ ⟨_, rfl⟩ | (with_reducible apply call (k1)); (focus simp (maxSteps := 900000) (disch := omega) only [go_sem, Nat.reduceEqDiff, ↓reduceIte, reduceCtorEq, Nat.reduceAdd, Nat.reduceMul, Int.reduceToNat, List.reduceReplicate, Nat.reduceLeDiff, Nat.reduceLT, Int.reduceLT, Int.reduceLE, Int.reduceEq] <;> rfl) | (with_reducible apply call (k2)); (focus simp (maxSteps := 900000) (disch := omega) only [go_sem, Nat.reduceEqDiff, ↓reduceIte, reduceCtorEq, Nat.reduceAdd, Nat.reduceMul, Int.reduceToNat, List.reduceReplicate, Nat.reduceLeDiff, Nat.reduceLT, Int.reduceLT, Int.reduceLE, Int.reduceEq] <;> rfl) | with_reducible refine pickB_f ?_ | with_reducible refine giv_intro fun _h => ?_ | with_reducible refine alt_intro ?_ fun _h => ?_ | with_reducible refine pickD_nil ?_ | (with_reducible refine brc (fun _h => ?_) fun _h => ?_) <;> first | (exfalso; omega) | simp only [decide_eq_false _h] | simp only [(_h : (_ : Bool) = _)] | simp only [decide_eq_true _h] | skip)
    (refine loopC hS [1, 2, 9, 10] (by simp only [go_sem, Nat.reduceEqDiff, ↓reduceIte, reduceCtorEq, Nat.reduceAdd, Nat.reduceMul, Int.reduceToNat, List.reduceReplicate, Nat.reduceLeDiff, Nat.reduceLT, Int.reduceLT, Int.reduceLE, Int.reduceEq]; try rfl) (fun (i : Nat) => [(11, intA i)]) (fun (i : Nat) => [none]) (fun (i : Nat) => (a, b) ∈ t.drop i) (fun (i : Nat) => t.length - i) (0) ?_ (by intro s; first | (simp only [List.length_cons, List.length_nil]; done) | rfl | (rcases s with ⟨_, _⟩; rfl) | (rcases s with ⟨_, _, _⟩; rfl) | (rcases s with ⟨_, _, _, _⟩; rfl) | (rcases s with ⟨_, _, _, _, _⟩; rfl)) ?_)
    · simp (maxSteps := 900000) (disch := omega) only [go_sem, Nat.reduceEqDiff, ↓reduceIte, reduceCtorEq, Nat.reduceAdd, Nat.reduceMul, Int.reduceToNat, List.reduceReplicate, Nat.reduceLeDiff, Nat.reduceLT, Int.reduceLT, Int.reduceLE, Int.reduceEq]
      exact r2
    rintro i hi
    replace hi : (a, b) ∈ t.drop i := hi
    have hil : i < t.length := by
      rcases Nat.lt_or_ge i t.length with h | h
      · exact h
      · rw [List.drop_eq_nil_of_le h] at hi; cases hi
    have x0 := pr_0 hil
    have x1 := pr_1 hil
    have s1 := Same_ok (nth t i).1 a
    have s2 := Same_ok (nth t i).2 b
    rw [nth_drop hil] at hi
    by_cases y1 : (nth t i).1 = a
    · by_cases y2 : (nth t i).2 = b
      · rw [decide_eq_true y1] at s1
        rw [decide_eq_true y2] at s2
        repeat' (first | with_reducible refine inw ?_ | simp (maxSteps := 900000) (disch := omega) only [go_sem, Nat.reduceEqDiff, ↓reduceIte, reduceCtorEq, Nat.reduceAdd, Nat.reduceMul, Int.reduceToNat, List.reduceReplicate, Nat.reduceLeDiff, Nat.reduceLT, Int.reduceLT, Int.reduceLE, Int.reduceEq, x0, x1] | (with_reducible apply call (known_ok)); (focus simp (maxSteps := 900000) (disch := omega) only [go_sem, Nat.reduceEqDiff, ↓reduceIte, reduceCtorEq, Nat.reduceAdd, Nat.reduceMul, Int.reduceToNat, List.reduceReplicate, Nat.reduceLeDiff, Nat.reduceLT, Int.reduceLT, Int.reduceLE, Int.reduceEq, x0, x1] <;> rfl) | (with_reducible apply call (s1)); (focus simp (maxSteps := 900000) (disch := omega) only [go_sem, Nat.reduceEqDiff, ↓reduceIte, reduceCtorEq, Nat.reduceAdd, Nat.reduceMul, Int.reduceToNat, List.reduceReplicate, Nat.reduceLeDiff, Nat.reduceLT, Int.reduceLT, Int.reduceLE, Int.reduceEq, x0, x1] <;> rfl) | (with_reducible apply call (s2)); (focus simp (maxSteps := 900000) (disch := omega) only [go_sem, Nat.reduceEqDiff, ↓reduceIte, reduceCtorEq, Nat.reduceAdd, Nat.reduceMul, Int.reduceToNat, List.reduceReplicate, Nat.reduceLeDiff, Nat.reduceLT, Int.reduceLT, Int.reduceLE, Int.reduceEq, x0, x1] <;> rfl) | with_reducible refine pickB_f ?_ | with_reducible refine giv_intro fun _h => ?_ | with_reducible refine alt_intro ?_ fun _h => ?_ | with_reducible refine pickD_nil ?_ | (with_reducible refine brc (fun _h => ?_) fun _h => ?_) <;> first | (exfalso; omega) | simp only [decide_eq_false _h] | simp only [(_h : (_ : Bool) = _)] | simp only [decide_eq_true _h] | skip)
      · have hi2 : (a, b) ∈ t.drop (i + 1) := by
          rcases List.mem_cons.1 hi with h | h
          · exact absurd (congrArg Prod.snd h).symm y2
          · exact h
        rw [decide_eq_true y1] at s1
        rw [decide_eq_false y2] at s2
        repeat' (first | with_reducible refine inw ?_ | simp (maxSteps := 900000) (disch := omega) only [go_sem, Nat.reduceEqDiff, ↓reduceIte, reduceCtorEq, Nat.reduceAdd, Nat.reduceMul, Int.reduceToNat, List.reduceReplicate, Nat.reduceLeDiff, Nat.reduceLT, Int.reduceLT, Int.reduceLE, Int.reduceEq, x0, x1] | (with_reducible apply call (known_ok)); (focus simp (maxSteps := 900000) (disch := omega) only [go_sem, Nat.reduceEqDiff, ↓reduceIte, reduceCtorEq, Nat.reduceAdd, Nat.reduceMul, Int.reduceToNat, List.reduceReplicate, Nat.reduceLeDiff, Nat.reduceLT, Int.reduceLT, Int.reduceLE, Int.reduceEq, x0, x1] <;> rfl) | (with_reducible apply call (s1)); (focus simp (maxSteps := 900000) (disch := omega) only [go_sem, Nat.reduceEqDiff, ↓reduceIte, reduceCtorEq, Nat.reduceAdd, Nat.reduceMul, Int.reduceToNat, List.reduceReplicate, Nat.reduceLeDiff, Nat.reduceLT, Int.reduceLT, Int.reduceLE, Int.reduceEq, x0, x1] <;> rfl) | (with_reducible apply call (s2)); (focus simp (maxSteps := 900000) (disch := omega) only [go_sem, Nat.reduceEqDiff, ↓reduceIte, reduceCtorEq, Nat.reduceAdd, Nat.reduceMul, Int.reduceToNat, List.reduceReplicate, Nat.reduceLeDiff, Nat.reduceLT, Int.reduceLT, Int.reduceLE, Int.reduceEq, x0, x1] <;> rfl) | with_reducible refine pickB_f ?_ | with_reducible refine giv_intro fun _h => ?_ | with_reducible refine alt_intro ?_ fun _h => ?_ | with_reducible refine pickD_nil ?_ | (with_reducible refine brc (fun _h => ?_) fun _h => ?_) <;> first | (exfalso; omega) | simp only [decide_eq_false _h] | simp only [(_h : (_ : Bool) = _)] | simp only [decide_eq_true _h] | skip)
        exact ⟨i + 1, ⟨by omega, hi2⟩, by omega⟩
    · have hi2 : (a, b) ∈ t.drop (i + 1) := by
        rcases List.mem_cons.1 hi with h | h
        · exact absurd (congrArg Prod.fst h).symm y1
        · exact h
      rw [decide_eq_false y1] at s1
      repeat' (first | with_reducible refine inw ?_ | simp (maxSteps := 900000) (disch := omega) only [go_sem, Nat.reduceEqDiff, ↓reduceIte, reduceCtorEq, Nat.reduceAdd, Nat.reduceMul, Int.reduceToNat, List.reduceReplicate, Nat.reduceLeDiff, Nat.reduceLT, Int.reduceLT, Int.reduceLE, Int.reduceEq, x0, x1] | (with_reducible apply call (known_ok)); (focus simp (maxSteps := 900000) (disch := omega) only [go_sem, Nat.reduceEqDiff, ↓reduceIte, reduceCtorEq, Nat.reduceAdd, Nat.reduceMul, Int.reduceToNat, List.reduceReplicate, Nat.reduceLeDiff, Nat.reduceLT, Int.reduceLT, Int.reduceLE, Int.reduceEq, x0, x1] <;> rfl) | (with_reducible apply call (s1)); (focus simp (maxSteps := 900000) (disch := omega) only [go_sem, Nat.reduceEqDiff, ↓reduceIte, reduceCtorEq, Nat.reduceAdd, Nat.reduceMul, Int.reduceToNat, List.reduceReplicate, Nat.reduceLeDiff, Nat.reduceLT, Int.reduceLT, Int.reduceLE, Int.reduceEq, x0, x1] <;> rfl) | (with_reducible apply call (s2)); (focus simp (maxSteps := 900000) (disch := omega) only [go_sem, Nat.reduceEqDiff, ↓reduceIte, reduceCtorEq, Nat.reduceAdd, Nat.reduceMul, Int.reduceToNat, List.reduceReplicate, Nat.reduceLeDiff, Nat.reduceLT, Int.reduceLT, Int.reduceLE, Int.reduceEq, x0, x1] <;> rfl) | with_reducible refine pickB_f ?_ | with_reducible refine giv_intro fun _h => ?_ | with_reducible refine alt_intro ?_ fun _h => ?_ | with_reducible refine pickD_nil ?_ | (with_reducible refine brc (fun _h => ?_) fun _h => ?_) <;> first | (exfalso; omega) | simp only [decide_eq_false _h] | simp only [(_h : (_ : Bool) = _)] | simp only [decide_eq_true _h] | skip)
      exact ⟨i + 1, ⟨by omega, hi2⟩, by omega⟩
  · clear hL
    (refine fn_look s15_ok (by simp) (by intro k; simp only [go_sem, Nat.reduceEqDiff, ↓reduceIte, reduceCtorEq, Nat.reduceAdd, Nat.reduceMul, Int.reduceToNat, List.reduceReplicate, Nat.reduceLeDiff, Nat.reduceLT, Int.reduceLT, Int.reduceLE, Int.reduceEq]) fun S hS => cwp_sound _ _ _ _ ?_; simp (maxSteps := 900000) (disch := omega) only [s15, go_sem, Nat.reduceEqDiff, ↓reduceIte, reduceCtorEq, Nat.reduceAdd, Nat.reduceMul, Int.reduceToNat, List.reduceReplicate, Nat.reduceLeDiff, Nat.reduceLT, Int.reduceLT, Int.reduceLE, Int.reduceEq])
    repeat' (first | with_reducible refine inw ?_ | simp (maxSteps := 900000) (disch := omega) only [go_sem, Nat.reduceEqDiff, ↓reduceIte, reduceCtorEq, Nat.reduceAdd, Nat.reduceMul, Int.reduceToNat, List.reduceReplicate, Nat.reduceLeDiff, Nat.reduceLT, Int.reduceLT, Int.reduceLE, Int.reduceEq] | (with_reducible apply call (known_ok)); (focus simp (maxSteps := 900000) (disch := omega) only [go_sem, Nat.reduceEqDiff, ↓reduceIte, reduceCtorEq, Nat.reduceAdd, Nat.reduceMul, Int.reduceToNat, List.reduceReplicate, Nat.reduceLeDiff, Nat.reduceLT, Int.reduceLT, Int.reduceLE, Int.reduceEq] <;> rfl) | (with_reducible apply callR (lJoints_ok l)); (focus simp (maxSteps := 900000) (disch := omega) only [go_sem, Nat.reduceEqDiff, ↓reduceIte, reduceCtorEq, Nat.reduceAdd, Nat.reduceMul, Int.reduceToNat, List.reduceReplicate, Nat.reduceLeDiff, Nat.reduceLT, Int.reduceLT, Int.reduceLE, Int.reduceEq] <;> rfl); rintro _ ⟨_, rfl⟩ | (with_reducible apply callR_lend (bytes_ok [a, b] (by simp))); (focus simp (maxSteps := 900000) (disch := omega) only [go_sem, Nat.reduceEqDiff, ↓reduceIte, reduceCtorEq, Nat.reduceAdd, Nat.reduceMul, Int.reduceToNat, List.reduceReplicate, Nat.reduceLeDiff, Nat.reduceLT, Int.reduceLT, Int.reduceLE, Int.reduceEq] <;> rfl); (focus (rintro _ ⟨_, rfl⟩; rfl)); rintro _ ⟨_, rfl⟩ | (with_reducible apply call (k1)); (focus simp (maxSteps := 900000) (disch := omega) only [go_sem, Nat.reduceEqDiff, ↓reduceIte, reduceCtorEq, Nat.reduceAdd, Nat.reduceMul, Int.reduceToNat, List.reduceReplicate, Nat.reduceLeDiff, Nat.reduceLT, Int.reduceLT, Int.reduceLE, Int.reduceEq] <;> rfl) | (with_reducible apply call (k2)); (focus simp (maxSteps := 900000) (disch := omega) only [go_sem, Nat.reduceEqDiff, ↓reduceIte, reduceCtorEq, Nat.reduceAdd, Nat.reduceMul, Int.reduceToNat, List.reduceReplicate, Nat.reduceLeDiff, Nat.reduceLT, Int.reduceLT, Int.reduceLE, Int.reduceEq] <;> rfl) | with_reducible refine pickB_f ?_ | with_reducible refine giv_intro fun _h => ?_ | with_reducible refine alt_intro ?_ fun _h => ?_ | with_reducible refine pickD_nil ?_ | (with_reducible refine brc (fun _h => ?_) fun _h => ?_) <;> first | (exfalso; omega) | simp only [decide_eq_false _h] | simp only [(_h : (_ : Bool) = _)] | simp only [decide_eq_true _h] | skip)
end Go.Proofs.Ytpfoflhhbkjngaa.Ev

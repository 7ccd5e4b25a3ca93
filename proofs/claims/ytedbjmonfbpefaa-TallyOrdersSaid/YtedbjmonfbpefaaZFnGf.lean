/- Two lists of grams put together: the reference. -/
import Derived.Test.YtedbjmonfbpefaaZFnGd
import Derived.Test.YtedbjmonfbpefaaZFnU
set_option linter.unusedVariables false
set_option linter.unusedSimpArgs false
namespace Go.Proofs.Ytedbjmonfbpefaa.Ev
open Go Go.Proofs

def bothF (a b : List Gram) : Int := if givenF a ≠ 0 then givenF a else givenF b
def largeG (o : List Gram) : Bool := decide (200 < o.length) || o.any fun g => decide (1000 < g.2)
def fitG (a b : List Gram) : Prop := 0 < a.length ∧ 0 < b.length ∧ (nth a 0).1.length ≠ (nth b 0).1.length
instance (a b : List Gram) : Decidable (fitG a b) := by unfold fitG; exact inferInstance
def mergeT (a b : List Gram) : List Gram × Int :=
  if bothF a b ≠ 0 then ([], bothF a b) else if fitG a b then ([], 10) else if largeG (insAG (a ++ b)) = true then ([], 3) else (insAG (a ++ b), 0)
/-- ablaut/ablautref27.both: 2 parameters, 0 captured -/
def s82 : SC := .seq (.reg [o1 4 (.mv (cI 0))])
  (.seq (.seq (.reg [o1 6 (.mv (.t 0)),
     o1 7 (.call (.f 70) [(.t 6)]),
     o1 5 (.mv (.t 7))])
    (.seq (.reg [o1 8 (.mv (.t 5)),
      o1 9 (.bin .neq (.t 8) (cI 0))])
     (.cond (.t 9) (.seq (.reg [o1 10 (.mv (.t 5)),
        o1 4 (.mv (.t 10))])
       (.ret)) (.skip))))
   (.seq (.reg [o1 11 (.mv (.t 1)),
     o1 12 (.call (.f 70) [(.t 11)]),
     o1 4 (.mv (.t 12))])
    (.ret)))
theorem s82_ok : lookF Try.prog 82 = some (s82, 13, [.tmp 4]) := by kernel_rfl
theorem rBoth_ok (a b : List Gram) (ha : ∀ g ∈ a, g.1.length ≤ 8796093022208) (hb : ∀ g ∈ b, g.1.length ≤ 8796093022208) : Fn P 82 [sl a, sl b] (intA (bothF a b)) := by
  have c1 := rGiven_ok a ha
  have c2 := rGiven_ok b hb
  unfold bothF
  by_cases h : givenF a ≠ 0
  · rw [if_pos h]
    (refine fn_look s82_ok (by simp) (by intro k; simp only [go_sem, Nat.reduceEqDiff, ↓reduceIte, reduceCtorEq, Nat.reduceAdd, Nat.reduceMul, Int.reduceToNat, List.reduceReplicate, Nat.reduceLeDiff, Nat.reduceLT, Int.reduceLT, Int.reduceLE, Int.reduceEq]) fun S hS => cwp_sound _ _ _ _ ?_; simp (maxSteps := 900000) (disch := omega) only [s82, go_sem, Nat.reduceEqDiff, ↓reduceIte, reduceCtorEq, Nat.reduceAdd, Nat.reduceMul, Int.reduceToNat, List.reduceReplicate, Nat.reduceLeDiff, Nat.reduceLT, Int.reduceLT, Int.reduceLE, Int.reduceEq])
    repeat' (first | with_reducible refine inw ?_ | simp (maxSteps := 900000) (disch := omega) only [go_sem, Nat.reduceEqDiff, ↓reduceIte, reduceCtorEq, Nat.reduceAdd, Nat.reduceMul, Int.reduceToNat, List.reduceReplicate, Nat.reduceLeDiff, Nat.reduceLT, Int.reduceLT, Int.reduceLE, Int.reduceEq] | (with_reducible apply call (c1)); (focus simp (maxSteps := 900000) (disch := omega) only [go_sem, Nat.reduceEqDiff, ↓reduceIte, reduceCtorEq, Nat.reduceAdd, Nat.reduceMul, Int.reduceToNat, List.reduceReplicate, Nat.reduceLeDiff, Nat.reduceLT, Int.reduceLT, Int.reduceLE, Int.reduceEq] <;> rfl) | (with_reducible apply call (c2)); (focus simp (maxSteps := 900000) (disch := omega) only [go_sem, Nat.reduceEqDiff, ↓reduceIte, reduceCtorEq, Nat.reduceAdd, Nat.reduceMul, Int.reduceToNat, List.reduceReplicate, Nat.reduceLeDiff, Nat.reduceLT, Int.reduceLT, Int.reduceLE, Int.reduceEq] <;> rfl) | with_reducible refine pickB_f ?_ | with_reducible refine giv_intro fun _h => ?_ | with_reducible refine alt_intro ?_ fun _h => ?_ | with_reducible refine pickD_nil ?_ | (with_reducible refine brc (fun _h => ?_) fun _h => ?_) <;> first | (exfalso; omega) | simp only [decide_eq_false _h] | simp only [(_h : (_ : Bool) = _)] | simp only [decide_eq_true _h] | skip)
  · rw [if_neg h]
    (refine fn_look s82_ok (by simp) (by intro k; simp only [go_sem, Nat.reduceEqDiff, ↓reduceIte, reduceCtorEq, Nat.reduceAdd, Nat.reduceMul, Int.reduceToNat, List.reduceReplicate, Nat.reduceLeDiff, Nat.reduceLT, Int.reduceLT, Int.reduceLE, Int.reduceEq]) fun S hS => cwp_sound _ _ _ _ ?_; simp (maxSteps := 900000) (disch := omega) only [s82, go_sem, Nat.reduceEqDiff, ↓reduceIte, reduceCtorEq, Nat.reduceAdd, Nat.reduceMul, Int.reduceToNat, List.reduceReplicate, Nat.reduceLeDiff, Nat.reduceLT, Int.reduceLT, Int.reduceLE, Int.reduceEq])
    repeat' (first | with_reducible refine inw ?_ | simp (maxSteps := 900000) (disch := omega) only [go_sem, Nat.reduceEqDiff, ↓reduceIte, reduceCtorEq, Nat.reduceAdd, Nat.reduceMul, Int.reduceToNat, List.reduceReplicate, Nat.reduceLeDiff, Nat.reduceLT, Int.reduceLT, Int.reduceLE, Int.reduceEq] | (with_reducible apply call (c1)); (focus simp (maxSteps := 900000) (disch := omega) only [go_sem, Nat.reduceEqDiff, ↓reduceIte, reduceCtorEq, Nat.reduceAdd, Nat.reduceMul, Int.reduceToNat, List.reduceReplicate, Nat.reduceLeDiff, Nat.reduceLT, Int.reduceLT, Int.reduceLE, Int.reduceEq] <;> rfl) | (with_reducible apply call (c2)); (focus simp (maxSteps := 900000) (disch := omega) only [go_sem, Nat.reduceEqDiff, ↓reduceIte, reduceCtorEq, Nat.reduceAdd, Nat.reduceMul, Int.reduceToNat, List.reduceReplicate, Nat.reduceLeDiff, Nat.reduceLT, Int.reduceLT, Int.reduceLE, Int.reduceEq] <;> rfl) | with_reducible refine pickB_f ?_ | with_reducible refine giv_intro fun _h => ?_ | with_reducible refine alt_intro ?_ fun _h => ?_ | with_reducible refine pickD_nil ?_ | (with_reducible refine brc (fun _h => ?_) fun _h => ?_) <;> first | (exfalso; omega) | simp only [decide_eq_false _h] | simp only [(_h : (_ : Bool) = _)] | simp only [decide_eq_true _h] | skip)
theorem good_words {l : List Gram} (h : GoodL l) : ∀ g ∈ l, 1 ≤ g.1.length ∧ g.1.length ≤ 4 ∧ 0 < g.2 ∧ g.2 ≤ 1000 := fun g hg => by
  obtain ⟨i, hi, rfl⟩ := List.getElem_of_mem hg
  have := h.ws i hi
  rw [← nth_eq hi]
  omega
theorem head2 {l : List Gram} (h : 0 < l.length) : (cellsL l).head? = some (sl (nth l 0).1) := by
  cases l with
  | nil => simp at h
  | cons g l => rfl
theorem any_step {l : List Gram} {i : Nat} (h : i < l.length) (p : Gram → Bool) : (l.take (i + 1)).any p = ((l.take i).any p || p (nth l i)) := by
  rw [List.take_add_one, nth_get? h, List.any_append]; simp
theorem insA_of {l : List Gram} (h : ∀ g ∈ l, 1 ≤ g.1.length ∧ g.1.length ≤ 4 ∧ 0 < g.2 ∧ g.2 ≤ 1000) (hl : l.length ≤ 400) : AscG (insAG l) ∧ (insAG l).length ≤ l.length ∧ ∀ g ∈ insAG l, g.1.length ≤ 8796093022208 ∧ 0 ≤ g.2 ∧ g.2 ≤ 1000000 := by
  have h1 := insAG_facts l fun g hg => (h g hg).2.2.1
  have h2 := insAG_le (l := l) (M := 1000) fun g hg => (h g hg).2.2
  refine ⟨h1.1, insAG_len l, fun g hg => ?_⟩
  obtain ⟨x, hx, e⟩ := insAG_mem l g hg
  have h3 := h x hx
  have h4 := h2 g hg
  rw [← e]
  exact ⟨by omega, h4.1, by omega⟩
/-- ablaut/ablautref27.Merge: 2 parameters, 0 captured -/
def s41 : SC := .seq (.reg [o1 4 (.mv (.c (.slice none 0 0))),
   o1 5 (.mv (cI 0))])
  (.seq (.seq (.reg [o1 12 (.mv (.t 0)),
     o1 13 (.mv (.t 1)),
     o1 14 (.call (.f 82) [(.t 12), (.t 13)]),
     o1 6 (.mv (.t 14))])
    (.seq (.reg [o1 15 (.mv (.t 6)),
      o1 16 (.bin .neq (.t 15) (cI 0))])
     (.cond (.t 16) (.seq (.reg [o1 17 (.mv (.t 6)),
        o1 4 (.mv (.c (.slice none 0 0))),
        o1 5 (.mv (.t 17))])
       (.ret)) (.skip))))
   (.seq (.seq (.regD [o1 18 (.mv (.t 0)),
      o1 19 (.lenL (.t 18)),
      o1 20 (.bin .gtr (.t 19) (cI 0)),
      o1 21 (.mv (.t 20)),
      oT 22 (.mv (.t 1)) 21,
      oT 23 (.lenL (.t 22)) 21,
      oT 24 (.bin .gtr (.t 23) (cI 0)) 21,
      o1 25 (.pick (.t 21) (.t 24) (cB false)),
      o1 26 (.mv (.t 25)),
      oT 27 (.mv (.t 0)) 26,
      oT 28 (.iaddr 2 (.t 27) (cI 0)) 26,
      oT 29 (.faddr 0 (.t 28)) 26,
      oT 30 (.load none (.t 29)) 26,
      oT 31 (.lenL (.t 30)) 26,
      oT 32 (.mv (.t 1)) 26,
      oT 33 (.iaddr 2 (.t 32) (cI 0)) 26,
      oT 34 (.faddr 0 (.t 33)) 26,
      oT 35 (.load none (.t 34)) 26,
      oT 36 (.lenL (.t 35)) 26,
      oT 37 (.bin .neq (.t 31) (.t 36)) 26,
      o1 38 (.pick (.t 26) (.t 37) (cB false))])
     (.cond (.t 38) (.seq (.reg [o1 4 (.mv (.c (.slice none 0 0))),
        o1 5 (.mv (cI 10))])
       (.ret)) (.skip)))
    (.seq (.reg [o1 7 (.mv (.c (.slice none 0 0)))])
     (.seq (.seq (.reg [o1 8 (.mv (cI 0))])
       (.block 0 (.loop (.seq (.seq (.reg [o1 39 (.mv (.t 8)),
            o1 40 (.mv (.t 0)),
            o1 41 (.lenL (.t 40)),
            o1 42 (.bin .lss (.t 39) (.t 41))])
           (.cond (.t 42) (.skip) (.exit 0)))
          (.seq (.block 1 (.regC [o1 45 (.mv (.t 7)),
             o1 46 (.mv (.t 0)),
             o1 47 (.mv (.t 8)),
             o1 48 (.iaddr 2 (.t 46) (.t 47)),
             o1 49 (.faddr 0 (.t 48)),
             o1 50 (.load none (.t 49)),
             o1 51 (.mv (.t 0)),
             o1 52 (.mv (.t 8)),
             o1 53 (.iaddr 2 (.t 51) (.t 52)),
             o1 54 (.faddr 1 (.t 53)),
             o1 55 (.load none (.t 54)),
             o1 56 (.call (.f 91) [(.t 45), (.t 50), (.t 55)]),
             o1 7 (.mv (.t 56))]))
           (.reg [o1 43 (.mv (.t 8)),
            o1 44 (.bin .add (.t 43) (cI 1)),
            o1 8 (.mv (.t 44))]))))))
      (.seq (.seq (.reg [o1 9 (.mv (cI 0))])
        (.block 2 (.loop (.seq (.seq (.reg [o1 57 (.mv (.t 9)),
             o1 58 (.mv (.t 1)),
             o1 59 (.lenL (.t 58)),
             o1 60 (.bin .lss (.t 57) (.t 59))])
            (.cond (.t 60) (.skip) (.exit 2)))
           (.seq (.block 3 (.regC [o1 63 (.mv (.t 7)),
              o1 64 (.mv (.t 1)),
              o1 65 (.mv (.t 9)),
              o1 66 (.iaddr 2 (.t 64) (.t 65)),
              o1 67 (.faddr 0 (.t 66)),
              o1 68 (.load none (.t 67)),
              o1 69 (.mv (.t 1)),
              o1 70 (.mv (.t 9)),
              o1 71 (.iaddr 2 (.t 69) (.t 70)),
              o1 72 (.faddr 1 (.t 71)),
              o1 73 (.load none (.t 72)),
              o1 74 (.call (.f 91) [(.t 63), (.t 68), (.t 73)]),
              o1 7 (.mv (.t 74))]))
            (.reg [o1 61 (.mv (.t 9)),
             o1 62 (.bin .add (.t 61) (cI 1)),
             o1 9 (.mv (.t 62))]))))))
       (.seq (.reg [o1 75 (.mv (.t 7)),
         o1 76 (.lenL (.t 75)),
         o1 77 (.bin .gtr (.t 76) (cI 200)),
         o1 10 (.mv (.t 77))])
        (.seq (.seq (.reg [o1 11 (.mv (cI 0))])
          (.block 4 (.loop (.seq (.seq (.reg [o1 78 (.mv (.t 11)),
               o1 79 (.mv (.t 7)),
               o1 80 (.lenL (.t 79)),
               o1 81 (.bin .lss (.t 78) (.t 80))])
              (.cond (.t 81) (.skip) (.exit 4)))
             (.seq (.block 5 (.reg [o1 84 (.mv (.t 10)),
                o1 85 (.mv (.t 84)),
                oF 86 (.mv (.t 7)) 85,
                oF 87 (.mv (.t 11)) 85,
                oF 88 (.iaddr 2 (.t 86) (.t 87)) 85,
                oF 89 (.faddr 1 (.t 88)) 85,
                oF 90 (.load none (.t 89)) 85,
                oF 91 (.bin .gtr (.t 90) (cI 1000)) 85,
                o1 92 (.pick (.t 85) (cB true) (.t 91)),
                o1 10 (.mv (.t 92))]))
              (.reg [o1 82 (.mv (.t 11)),
               o1 83 (.bin .add (.t 82) (cI 1)),
               o1 11 (.mv (.t 83))]))))))
         (.seq (.seq (.reg [o1 93 (.mv (.t 10))])
           (.cond (.t 93) (.seq (.reg [o1 4 (.mv (.c (.slice none 0 0))),
              o1 5 (.mv (cI 3))])
             (.ret)) (.skip)))
          (.seq (.reg [o1 94 (.mv (.t 7)),
            o1 4 (.mv (.t 94)),
            o1 5 (.mv (cI 0))])
           (.ret))))))))))
theorem s41_ok : lookF Try.prog 41 = some (s41, 95, [.tmp 4, .tmp 5]) := by kernel_rfl
set_option maxHeartbeats 1000000 in
theorem rMerge_ok (a b : List Gram) (ha : ∀ g ∈ a, g.1.length ≤ 8796093022208) (hb : ∀ g ∈ b, g.1.length ≤ 8796093022208) : Fn P 41 [sl a, sl b] (.tup [sl (mergeT a b).1, intA (mergeT a b).2]) := by
  have c1 := rBoth_ok a b ha hb
  by_cases h1 : bothF a b ≠ 0
  · rw [mergeT, if_pos h1]
    (refine fn_look s41_ok (by simp) (by intro k; simp only [go_sem, Nat.reduceEqDiff, ↓reduceIte, reduceCtorEq, Nat.reduceAdd, Nat.reduceMul, Int.reduceToNat, List.reduceReplicate, Nat.reduceLeDiff, Nat.reduceLT, Int.reduceLT, Int.reduceLE, Int.reduceEq]) fun S hS => cwp_sound _ _ _ _ ?_; simp (maxSteps := 900000) (disch := omega) only [s41, go_sem, Nat.reduceEqDiff, ↓reduceIte, reduceCtorEq, Nat.reduceAdd, Nat.reduceMul, Int.reduceToNat, List.reduceReplicate, Nat.reduceLeDiff, Nat.reduceLT, Int.reduceLT, Int.reduceLE, Int.reduceEq])
    repeat' (first | with_reducible refine inw ?_ | simp (maxSteps := 900000) (disch := omega) only [go_sem, Nat.reduceEqDiff, ↓reduceIte, reduceCtorEq, Nat.reduceAdd, Nat.reduceMul, Int.reduceToNat, List.reduceReplicate, Nat.reduceLeDiff, Nat.reduceLT, Int.reduceLT, Int.reduceLE, Int.reduceEq] | (with_reducible apply call (c1)); (focus simp (maxSteps := 900000) (disch := omega) only [go_sem, Nat.reduceEqDiff, ↓reduceIte, reduceCtorEq, Nat.reduceAdd, Nat.reduceMul, Int.reduceToNat, List.reduceReplicate, Nat.reduceLeDiff, Nat.reduceLT, Int.reduceLT, Int.reduceLE, Int.reduceEq] <;> rfl) | with_reducible refine pickB_f ?_ | with_reducible refine giv_intro fun _h => ?_ | with_reducible refine alt_intro ?_ fun _h => ?_ | with_reducible refine pickD_nil ?_ | (with_reducible refine brc (fun _h => ?_) fun _h => ?_) <;> first | (exfalso; omega) | simp only [decide_eq_false _h] | simp only [(_h : (_ : Bool) = _)] | simp only [decide_eq_true _h] | skip)
    rfl
  have h1' : bothF a b = 0 := by omega
  have hga : givenF a = 0 := by unfold bothF at h1'; split at h1' <;> omega
  have hgb : givenF b = 0 := by unfold bothF at h1'; split at h1' <;> omega
  have wa := good_words (good_of hga)
  have wb := good_words (good_of hgb)
  have la := (good_of hga).len
  have lb := (good_of hgb).len
  have ea := fun h => head2 (l := a) h
  have eb := fun h => head2 (l := b) h
  by_cases h2 : fitG a b
  · rw [mergeT, if_neg h1, if_pos h2]
    obtain ⟨q1, q2, q3⟩ := h2
    replace ea := ea q1
    replace eb := eb q2
    (refine fn_look s41_ok (by simp) (by intro k; simp only [go_sem, Nat.reduceEqDiff, ↓reduceIte, reduceCtorEq, Nat.reduceAdd, Nat.reduceMul, Int.reduceToNat, List.reduceReplicate, Nat.reduceLeDiff, Nat.reduceLT, Int.reduceLT, Int.reduceLE, Int.reduceEq]) fun S hS => cwp_sound _ _ _ _ ?_; simp (maxSteps := 900000) (disch := omega) only [s41, go_sem, Nat.reduceEqDiff, ↓reduceIte, reduceCtorEq, Nat.reduceAdd, Nat.reduceMul, Int.reduceToNat, List.reduceReplicate, Nat.reduceLeDiff, Nat.reduceLT, Int.reduceLT, Int.reduceLE, Int.reduceEq])
    repeat' (first | with_reducible refine inw ?_ | simp (maxSteps := 900000) (disch := omega) only [go_sem, Nat.reduceEqDiff, ↓reduceIte, reduceCtorEq, Nat.reduceAdd, Nat.reduceMul, Int.reduceToNat, List.reduceReplicate, Nat.reduceLeDiff, Nat.reduceLT, Int.reduceLT, Int.reduceLE, Int.reduceEq, ea, eb] | (with_reducible apply call (c1)); (focus simp (maxSteps := 900000) (disch := omega) only [go_sem, Nat.reduceEqDiff, ↓reduceIte, reduceCtorEq, Nat.reduceAdd, Nat.reduceMul, Int.reduceToNat, List.reduceReplicate, Nat.reduceLeDiff, Nat.reduceLT, Int.reduceLT, Int.reduceLE, Int.reduceEq, ea, eb] <;> rfl) | with_reducible refine pickB_f ?_ | with_reducible refine giv_intro fun _h => ?_ | with_reducible refine alt_intro ?_ fun _h => ?_ | with_reducible refine pickD_nil ?_ | (with_reducible refine brc (fun _h => ?_) fun _h => ?_) <;> first | (exfalso; omega) | simp only [decide_eq_false _h] | simp only [(_h : (_ : Bool) = _)] | simp only [decide_eq_true _h] | skip)
    rfl
  have hw : ∀ g ∈ a ++ b, 1 ≤ g.1.length ∧ g.1.length ≤ 4 ∧ 0 < g.2 ∧ g.2 ≤ 1000 := fun g hg => (List.mem_append.1 hg).elim (wa g) (wb g)
  have sa := fun (i : Nat) (hi : i ≤ a.length) => insA_of (l := a.take i) (fun g hg => wa g (List.mem_of_mem_take hg)) (by rw [List.length_take]; omega)
  have sb := fun (i : Nat) (hi : i ≤ b.length) => insA_of (l := a ++ b.take i) (fun g hg => hw g (List.mem_append.2 ((List.mem_append.1 hg).imp id List.mem_of_mem_take))) (by rw [List.length_append, List.length_take]; omega)
  have ta : ∀ i, i < a.length → insAG (a.take (i + 1)) = insG (nth a i).1 (nth a i).2 (insAG (a.take i)) := fun i hi => by
    rw [List.take_add_one, nth_get? hi]; exact insAG_snoc _ _
  have tb : ∀ i, i < b.length → insAG (a ++ b.take (i + 1)) = insG (nth b i).1 (nth b i).2 (insAG (a ++ b.take i)) := fun i hi => by
    rw [List.take_add_one, nth_get? hi, ← List.append_assoc]; exact insAG_snoc _ _
  have eR : mergeT a b = if largeG (insAG (a ++ b)) = true then ([], 3) else (insAG (a ++ b), 0) := by rw [mergeT, if_neg h1, if_neg h2]
  rw [eR]
  (refine fn_look s41_ok (by simp) (by intro k; simp only [go_sem, Nat.reduceEqDiff, ↓reduceIte, reduceCtorEq, Nat.reduceAdd, Nat.reduceMul, Int.reduceToNat, List.reduceReplicate, Nat.reduceLeDiff, Nat.reduceLT, Int.reduceLT, Int.reduceLE, Int.reduceEq]) fun S hS => cwp_sound _ _ _ _ ?_; simp (maxSteps := 900000) (disch := omega) only [s41, go_sem, Nat.reduceEqDiff, ↓reduceIte, reduceCtorEq, Nat.reduceAdd, Nat.reduceMul, Int.reduceToNat, List.reduceReplicate, Nat.reduceLeDiff, Nat.reduceLT, Int.reduceLT, Int.reduceLE, Int.reduceEq])
  by_cases h3 : 0 < a.length ∧ 0 < b.length
  case' pos =>
    have heq : (nth a 0).1.length = (nth b 0).1.length := by
      rcases Nat.lt_trichotomy (nth a 0).1.length (nth b 0).1.length with h | h | h
      · exact absurd ⟨h3.1, h3.2, by omega⟩ h2
      · exact h
      · exact absurd ⟨h3.1, h3.2, by omega⟩ h2
    replace ea := ea h3.1
    replace eb := eb h3.2
    repeat' (first | with_reducible refine inw ?_ | simp (maxSteps := 900000) (disch := omega) only [go_sem, Nat.reduceEqDiff, ↓reduceIte, reduceCtorEq, Nat.reduceAdd, Nat.reduceMul, Int.reduceToNat, List.reduceReplicate, Nat.reduceLeDiff, Nat.reduceLT, Int.reduceLT, Int.reduceLE, Int.reduceEq, ea, eb] | (with_reducible apply call (c1)); (focus simp (maxSteps := 900000) (disch := omega) only [go_sem, Nat.reduceEqDiff, ↓reduceIte, reduceCtorEq, Nat.reduceAdd, Nat.reduceMul, Int.reduceToNat, List.reduceReplicate, Nat.reduceLeDiff, Nat.reduceLT, Int.reduceLT, Int.reduceLE, Int.reduceEq, ea, eb] <;> rfl) | with_reducible refine pickB_f ?_ | with_reducible refine giv_intro fun _h => ?_ | with_reducible refine alt_intro ?_ fun _h => ?_ | with_reducible refine pickD_nil ?_ | (with_reducible refine brc (fun _h => ?_) fun _h => ?_) <;> first | (exfalso; omega) | simp only [decide_eq_false _h] | simp only [(_h : (_ : Bool) = _)] | simp only [decide_eq_true _h] | skip)
  case' neg =>
    repeat' (first | with_reducible refine inw ?_ | simp (maxSteps := 900000) (disch := omega) only [go_sem, Nat.reduceEqDiff, ↓reduceIte, reduceCtorEq, Nat.reduceAdd, Nat.reduceMul, Int.reduceToNat, List.reduceReplicate, Nat.reduceLeDiff, Nat.reduceLT, Int.reduceLT, Int.reduceLE, Int.reduceEq] | (with_reducible apply call (c1)); (focus simp (maxSteps := 900000) (disch := omega) only [go_sem, Nat.reduceEqDiff, ↓reduceIte, reduceCtorEq, Nat.reduceAdd, Nat.reduceMul, Int.reduceToNat, List.reduceReplicate, Nat.reduceLeDiff, Nat.reduceLT, Int.reduceLT, Int.reduceLE, Int.reduceEq] <;> rfl) | with_reducible refine pickB_f ?_ | with_reducible refine giv_intro fun _h => ?_ | with_reducible refine alt_intro ?_ fun _h => ?_ | with_reducible refine pickD_nil ?_ | (with_reducible refine brc (fun _h => ?_) fun _h => ?_) <;> first | (exfalso; omega) | simp only [decide_eq_false _h] | simp only [(_h : (_ : Bool) = _)] | simp only [decide_eq_true _h] | skip)
  all_goals
    refine nil_row 7 89 2 (by simp (maxSteps := 900000) (disch := omega) only [go_sem, Nat.reduceEqDiff, ↓reduceIte, reduceCtorEq, Nat.reduceAdd, Nat.reduceMul, Int.reduceToNat, List.reduceReplicate, Nat.reduceLeDiff, Nat.reduceLT, Int.reduceLT, Int.reduceLE, Int.reduceEq]) ?_
    (refine loopC hS [0, 1] (by simp only [go_sem, Nat.reduceEqDiff, ↓reduceIte, reduceCtorEq, Nat.reduceAdd, Nat.reduceMul, Int.reduceToNat, List.reduceReplicate, Nat.reduceLeDiff, Nat.reduceLT, Int.reduceLT, Int.reduceLE, Int.reduceEq]; try rfl) (fun (i : Nat) => [(7, own S 0 (insAG (a.take i))), (8, intA i)]) (fun (i : Nat) => [rowO 89 (insAG (a.take i))]) (fun (i : Nat) => i ≤ a.length) (fun (i : Nat) => a.length - i) (0) ?_ (by intro s; first | rfl | (rcases s with ⟨_, _⟩; rfl) | (rcases s with ⟨_, _, _⟩; rfl) | (rcases s with ⟨_, _, _, _⟩; rfl) | (rcases s with ⟨_, _, _, _, _⟩; rfl)) ?_)
    · simp (maxSteps := 900000) (disch := omega) only [go_sem, Nat.reduceEqDiff, ↓reduceIte, reduceCtorEq, Nat.reduceAdd, Nat.reduceMul, Int.reduceToNat, List.reduceReplicate, Nat.reduceLeDiff, Nat.reduceLT, Int.reduceLT, Int.reduceLE, Int.reduceEq]
      exact ⟨Nat.zero_le _, ⟨rfl, rfl⟩, rfl⟩
    rintro i hi
    replace hi : i ≤ a.length := hi
    by_cases hia : i < a.length
    · have s1 := sa i hi
      have s2 := hw _ (List.mem_append_left _ (nth_mem hia))
      have hlt : (a.take i).length = i := by rw [List.length_take]; omega
      repeat' (first | with_reducible refine inw ?_ | simp (maxSteps := 900000) (disch := omega) only [go_sem, Nat.reduceEqDiff, ↓reduceIte, reduceCtorEq, Nat.reduceAdd, Nat.reduceMul, Int.reduceToNat, List.reduceReplicate, Nat.reduceLeDiff, Nat.reduceLT, Int.reduceLT, Int.reduceLE, Int.reduceEq] | with_reducible refine pickB_t ?_ | with_reducible refine pickB_f ?_ | with_reducible refine giv_intro fun _h => ?_ | with_reducible refine alt_intro ?_ fun _h => ?_ | with_reducible refine pickD_nil ?_ | (with_reducible refine brc (fun _h => ?_) fun _h => ?_) <;> first | (exfalso; omega) | simp only [decide_eq_false _h] | simp only [(_h : (_ : Bool) = _)] | simp only [decide_eq_true _h] | skip)
      all_goals
        refine into_call hS _ _ _ s1.1 (by omega) (by omega) s1.2.2 (by omega) (fun X => ?_)
        rw [← ta i hia]
        repeat' (first | with_reducible refine inw ?_ | simp (maxSteps := 900000) (disch := omega) only [go_sem, Nat.reduceEqDiff, ↓reduceIte, reduceCtorEq, Nat.reduceAdd, Nat.reduceMul, Int.reduceToNat, List.reduceReplicate, Nat.reduceLeDiff, Nat.reduceLT, Int.reduceLT, Int.reduceLE, Int.reduceEq] | with_reducible refine pickB_f ?_ | with_reducible refine giv_intro fun _h => ?_ | with_reducible refine alt_intro ?_ fun _h => ?_ | with_reducible refine pickD_nil ?_ | (with_reducible refine brc (fun _h => ?_) fun _h => ?_) <;> first | (exfalso; omega) | simp only [decide_eq_false _h] | simp only [(_h : (_ : Bool) = _)] | simp only [decide_eq_true _h] | skip)
        exact ⟨by omega, i + 1, ⟨by omega, by omega⟩, ⟨⟨rfl, rfl⟩, by omega⟩, rfl⟩
    obtain rfl : i = a.length := by omega
    rw [List.take_length]
    repeat' (first | with_reducible refine inw ?_ | simp (maxSteps := 900000) (disch := omega) only [go_sem, Nat.reduceEqDiff, ↓reduceIte, reduceCtorEq, Nat.reduceAdd, Nat.reduceMul, Int.reduceToNat, List.reduceReplicate, Nat.reduceLeDiff, Nat.reduceLT, Int.reduceLT, Int.reduceLE, Int.reduceEq] | with_reducible refine pickB_f ?_ | with_reducible refine giv_intro fun _h => ?_ | with_reducible refine alt_intro ?_ fun _h => ?_ | with_reducible refine pickD_nil ?_ | (with_reducible refine brc (fun _h => ?_) fun _h => ?_) <;> first | (exfalso; omega) | simp only [decide_eq_false _h] | simp only [(_h : (_ : Bool) = _)] | simp only [decide_eq_true _h] | skip)
    (refine loopC hS [1] (by simp only [go_sem, Nat.reduceEqDiff, ↓reduceIte, reduceCtorEq, Nat.reduceAdd, Nat.reduceMul, Int.reduceToNat, List.reduceReplicate, Nat.reduceLeDiff, Nat.reduceLT, Int.reduceLT, Int.reduceLE, Int.reduceEq]; try rfl) (fun (k : Nat) => [(7, own S 0 (insAG (a ++ b.take k))), (9, intA k)]) (fun (k : Nat) => [rowO 89 (insAG (a ++ b.take k))]) (fun (k : Nat) => k ≤ b.length) (fun (k : Nat) => b.length - k) (0) ?_ (by intro s; first | rfl | (rcases s with ⟨_, _⟩; rfl) | (rcases s with ⟨_, _, _⟩; rfl) | (rcases s with ⟨_, _, _, _⟩; rfl) | (rcases s with ⟨_, _, _, _, _⟩; rfl)) ?_)
    · simp (maxSteps := 900000) (disch := omega) only [go_sem, Nat.reduceEqDiff, ↓reduceIte, reduceCtorEq, Nat.reduceAdd, Nat.reduceMul, Int.reduceToNat, List.reduceReplicate, Nat.reduceLeDiff, Nat.reduceLT, Int.reduceLT, Int.reduceLE, Int.reduceEq]
      exact Nat.zero_le _
    rintro k hk
    replace hk : k ≤ b.length := hk
    by_cases hkb : k < b.length
    · have s1 := sb k hk
      have s2 := hw _ (List.mem_append_right _ (nth_mem hkb))
      have hlt : (a ++ b.take k).length = a.length + k := by rw [List.length_append, List.length_take]; omega
      repeat' (first | with_reducible refine inw ?_ | simp (maxSteps := 900000) (disch := omega) only [go_sem, Nat.reduceEqDiff, ↓reduceIte, reduceCtorEq, Nat.reduceAdd, Nat.reduceMul, Int.reduceToNat, List.reduceReplicate, Nat.reduceLeDiff, Nat.reduceLT, Int.reduceLT, Int.reduceLE, Int.reduceEq] | with_reducible refine pickB_t ?_ | with_reducible refine pickB_f ?_ | with_reducible refine giv_intro fun _h => ?_ | with_reducible refine alt_intro ?_ fun _h => ?_ | with_reducible refine pickD_nil ?_ | (with_reducible refine brc (fun _h => ?_) fun _h => ?_) <;> first | (exfalso; omega) | simp only [decide_eq_false _h] | simp only [(_h : (_ : Bool) = _)] | simp only [decide_eq_true _h] | skip)
      all_goals
        refine into_call hS _ _ _ s1.1 (by omega) (by omega) s1.2.2 (by omega) (fun X => ?_)
        rw [← tb k hkb]
        repeat' (first | with_reducible refine inw ?_ | simp (maxSteps := 900000) (disch := omega) only [go_sem, Nat.reduceEqDiff, ↓reduceIte, reduceCtorEq, Nat.reduceAdd, Nat.reduceMul, Int.reduceToNat, List.reduceReplicate, Nat.reduceLeDiff, Nat.reduceLT, Int.reduceLT, Int.reduceLE, Int.reduceEq] | with_reducible refine pickB_f ?_ | with_reducible refine giv_intro fun _h => ?_ | with_reducible refine alt_intro ?_ fun _h => ?_ | with_reducible refine pickD_nil ?_ | (with_reducible refine brc (fun _h => ?_) fun _h => ?_) <;> first | (exfalso; omega) | simp only [decide_eq_false _h] | simp only [(_h : (_ : Bool) = _)] | simp only [decide_eq_true _h] | skip)
        exact ⟨by omega, k + 1, ⟨by omega, by omega⟩, ⟨⟨rfl, rfl⟩, by omega⟩, rfl⟩
    obtain rfl : k = b.length := by omega
    rw [List.take_length]
    have so := sb b.length (Nat.le_refl _)
    rw [List.take_length] at so
    have hol : (insAG (a ++ b)).length ≤ 400 := by have := so.2.1; rw [List.length_append] at this; omega
    generalize insAG (a ++ b) = o at *
    repeat' (first | with_reducible refine inw ?_ | simp (maxSteps := 900000) (disch := omega) only [go_sem, Nat.reduceEqDiff, ↓reduceIte, reduceCtorEq, Nat.reduceAdd, Nat.reduceMul, Int.reduceToNat, List.reduceReplicate, Nat.reduceLeDiff, Nat.reduceLT, Int.reduceLT, Int.reduceLE, Int.reduceEq] | with_reducible refine pickB_f ?_ | with_reducible refine giv_intro fun _h => ?_ | with_reducible refine alt_intro ?_ fun _h => ?_ | with_reducible refine pickD_nil ?_ | (with_reducible refine brc (fun _h => ?_) fun _h => ?_) <;> first | (exfalso; omega) | simp only [decide_eq_false _h] | simp only [(_h : (_ : Bool) = _)] | simp only [decide_eq_true _h] | skip)
    (refine loopC hS [7] (by simp only [go_sem, Nat.reduceEqDiff, ↓reduceIte, reduceCtorEq, Nat.reduceAdd, Nat.reduceMul, Int.reduceToNat, List.reduceReplicate, Nat.reduceLeDiff, Nat.reduceLT, Int.reduceLT, Int.reduceLE, Int.reduceEq]; try rfl) (fun (m : Nat) => [(10, boolA (decide (200 < o.length) || (o.take m).any fun g => decide (1000 < g.2))), (11, intA m)]) (fun (m : Nat) => [rowO 89 o]) (fun (m : Nat) => m ≤ o.length) (fun (m : Nat) => o.length - m) (0) ?_ (by intro s; first | rfl | (rcases s with ⟨_, _⟩; rfl) | (rcases s with ⟨_, _, _⟩; rfl) | (rcases s with ⟨_, _, _, _⟩; rfl) | (rcases s with ⟨_, _, _, _, _⟩; rfl)) ?_)
    · simp (maxSteps := 900000) (disch := omega) only [go_sem, Nat.reduceEqDiff, ↓reduceIte, reduceCtorEq, Nat.reduceAdd, Nat.reduceMul, Int.reduceToNat, List.reduceReplicate, Nat.reduceLeDiff, Nat.reduceLT, Int.reduceLT, Int.reduceLE, Int.reduceEq]
      refine ⟨Nat.zero_le _, ?_⟩
      rw [List.any_nil, Bool.or_false]
      exact decide_eq_decide.2 (by omega)
    rintro m hm
    replace hm : m ≤ o.length := hm
    by_cases hmo : m < o.length
    · have e1 := cells2_1 hmo
      have e2 := any_step hmo fun g => decide (1000 < g.2)
      repeat' (first | with_reducible refine inw ?_ | simp (maxSteps := 900000) (disch := omega) only [go_sem, Nat.reduceEqDiff, ↓reduceIte, reduceCtorEq, Nat.reduceAdd, Nat.reduceMul, Int.reduceToNat, List.reduceReplicate, Nat.reduceLeDiff, Nat.reduceLT, Int.reduceLT, Int.reduceLE, Int.reduceEq, e1] | with_reducible refine pickB_f ?_ | with_reducible refine giv_intro fun _h => ?_ | with_reducible refine alt_intro ?_ fun _h => ?_ | with_reducible refine pickD_nil ?_ | (with_reducible refine brc (fun _h => ?_) fun _h => ?_) <;> first | (exfalso; omega) | simp only [decide_eq_false _h] | simp only [(_h : (_ : Bool) = _)] | simp only [decide_eq_true _h] | skip)
      all_goals
        refine ⟨m + 1, ⟨by omega, by omega⟩, ?_, by omega⟩
        rw [e2, ← Bool.or_assoc]
        first
          | (rw [show (decide (200 < o.length) || (o.take m).any fun g => decide (1000 < g.2)) = true by assumption]; rfl)
          | (rw [show (decide (200 < o.length) || (o.take m).any fun g => decide (1000 < g.2)) = false by assumption]; rfl)
    obtain rfl : m = o.length := by omega
    rw [List.take_length]
    cases hlg : largeG o with
    | true =>
      have hlg' : (decide (200 < o.length) || o.any fun g => decide (1000 < g.2)) = true := hlg
      repeat' (first | with_reducible refine inw ?_ | simp (maxSteps := 900000) (disch := omega) only [go_sem, Nat.reduceEqDiff, ↓reduceIte, reduceCtorEq, Nat.reduceAdd, Nat.reduceMul, Int.reduceToNat, List.reduceReplicate, Nat.reduceLeDiff, Nat.reduceLT, Int.reduceLT, Int.reduceLE, Int.reduceEq, hlg'] | with_reducible refine pickB_f ?_ | with_reducible refine giv_intro fun _h => ?_ | with_reducible refine alt_intro ?_ fun _h => ?_ | with_reducible refine pickD_nil ?_ | (with_reducible refine brc (fun _h => ?_) fun _h => ?_) <;> first | (exfalso; omega) | simp only [decide_eq_false _h] | simp only [(_h : (_ : Bool) = _)] | simp only [decide_eq_true _h] | skip)
      all_goals first | rfl | done
    | false =>
      have hlg' : (decide (200 < o.length) || o.any fun g => decide (1000 < g.2)) = false := hlg
      repeat' (first | with_reducible refine inw ?_ | simp (maxSteps := 900000) (disch := omega) only [go_sem, Nat.reduceEqDiff, ↓reduceIte, reduceCtorEq, Nat.reduceAdd, Nat.reduceMul, Int.reduceToNat, List.reduceReplicate, Nat.reduceLeDiff, Nat.reduceLT, Int.reduceLT, Int.reduceLE, Int.reduceEq, hlg'] | with_reducible refine pickB_f ?_ | with_reducible refine giv_intro fun _h => ?_ | with_reducible refine alt_intro ?_ fun _h => ?_ | with_reducible refine pickD_nil ?_ | (with_reducible refine brc (fun _h => ?_) fun _h => ?_) <;> first | (exfalso; omega) | simp only [decide_eq_false _h] | simp only [(_h : (_ : Bool) = _)] | simp only [decide_eq_true _h] | skip)
      all_goals first | rfl | done
end Go.Proofs.Ytedbjmonfbpefaa.Ev

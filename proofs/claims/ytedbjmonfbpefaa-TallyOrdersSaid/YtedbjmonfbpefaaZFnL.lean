/- Grams: how much text. -/
import Derived.Test.YtedbjmonfbpefaaZFnG
import Derived.Test.YtedbjmonfbpefaaZEvT
set_option linter.unusedVariables false
set_option linter.unusedSimpArgs false
namespace Go.Proofs.Ytedbjmonfbpefaa.Ev
open Go Go.Proofs
abbrev Gram := List Str × Int

def textsF : Int → List Str → Int
  | n, [] => n
  | n, s :: l => if n ≤ 400000 then textsF (n + s.size) l else n
theorem textsF_stop {n : Int} (l : List Str) (h : ¬ n ≤ 400000) : textsF n l = n := by cases l <;> simp [textsF, h]
theorem textsF_step {n : Int} {l : List Str} {i : Nat} (hi : i < l.length) (h : n ≤ 400000) : textsF n (l.drop i) = textsF (n + (nth l i).size) (l.drop (i + 1)) := by
  rw [nth_drop hi, textsF, if_pos h]
def textsE (l : List Str) : Int := textsF l.length l
/-- ablaut/ablautlaw27.texts: 1 parameters, 0 captured -/
def s31 : SC := .seq (.reg [o1 2 (.mv (cI 0))])
  (.seq (.reg [o1 5 (.mv (.t 0)),
    o1 6 (.lenL (.t 5)),
    o1 3 (.mv (.t 6))])
   (.seq (.seq (.reg [o1 4 (.mv (cI 0))])
     (.block 0 (.loop (.seq (.seq (.reg [o1 7 (.mv (.t 4)),
          o1 8 (.mv (.t 0)),
          o1 9 (.lenL (.t 8)),
          o1 10 (.bin .lss (.t 7) (.t 9)),
          o1 11 (.mv (.t 10)),
          oT 12 (.mv (.t 3)) 11,
          oT 13 (.bin .leq (.t 12) (cI 400000)) 11,
          o1 14 (.pick (.t 11) (.t 13) (cB false))])
         (.cond (.t 14) (.skip) (.exit 0)))
        (.seq (.block 1 (.reg [o1 17 (.mv (.t 3)),
           o1 18 (.mv (.t 0)),
           o1 19 (.mv (.t 4)),
           o1 20 (.iaddr 1 (.t 18) (.t 19)),
           o1 21 (.load none (.t 20)),
           o1 22 (.lenS (.t 21)),
           o1 23 (.bin .add (.t 17) (.t 22)),
           o1 3 (.mv (.t 23))]))
         (.reg [o1 15 (.mv (.t 4)),
          o1 16 (.bin .add (.t 15) (cI 1)),
          o1 4 (.mv (.t 16))]))))))
    (.seq (.reg [o1 24 (.mv (.t 3)),
      o1 2 (.mv (.t 24))])
     (.ret))))
theorem s31_ok : lookF Try.prog 31 = some (s31, 25, [.tmp 2]) := by kernel_rfl
theorem texts_ok (l : List Str) (hl : l.length ≤ 8796093022208) (hs : ∀ s ∈ l, s.size ≤ 140737488351232) : Fn P 31 [sl l] (intA (textsE l)) := by
  (refine fn_look s31_ok (by simp) (by intro k; simp only [go_sem, Nat.reduceEqDiff, ↓reduceIte, reduceCtorEq, Nat.reduceAdd, Nat.reduceMul, Int.reduceToNat, List.reduceReplicate, Nat.reduceLeDiff, Nat.reduceLT, Int.reduceLT, Int.reduceLE, Int.reduceEq]) fun S hS => cwp_sound _ _ _ _ ?_; simp (maxSteps := 900000) (disch := omega) only [s31, go_sem, Nat.reduceEqDiff, ↓reduceIte, reduceCtorEq, Nat.reduceAdd, Nat.reduceMul, Int.reduceToNat, List.reduceReplicate, Nat.reduceLeDiff, Nat.reduceLT, Int.reduceLT, Int.reduceLE, Int.reduceEq])
  repeat' (first | with_reducible refine inw ?_ | simp (maxSteps := 900000) (disch := omega) only [go_sem, Nat.reduceEqDiff, ↓reduceIte, reduceCtorEq, Nat.reduceAdd, Nat.reduceMul, Int.reduceToNat, List.reduceReplicate, Nat.reduceLeDiff, Nat.reduceLT, Int.reduceLT, Int.reduceLE, Int.reduceEq] | with_reducible refine pickB_f ?_ | with_reducible refine giv_intro fun _h => ?_ | with_reducible refine alt_intro ?_ fun _h => ?_ | with_reducible refine pickD_nil ?_ | (with_reducible refine brc (fun _h => ?_) fun _h => ?_) <;> first | (exfalso; omega) | simp only [decide_eq_false _h] | simp only [(_h : (_ : Bool) = _)] | simp only [decide_eq_true _h] | skip)
  (refine loopC hS [0] (by simp only [go_sem, Nat.reduceEqDiff, ↓reduceIte, reduceCtorEq, Nat.reduceAdd, Nat.reduceMul, Int.reduceToNat, List.reduceReplicate, Nat.reduceLeDiff, Nat.reduceLT, Int.reduceLT, Int.reduceLE, Int.reduceEq]; try rfl) (fun (⟨i, n⟩ : Nat × Int) => [(3, intA n), (4, intA i)]) (fun (⟨i, n⟩ : Nat × Int) => []) (fun (⟨i, n⟩ : Nat × Int) => i ≤ l.length ∧ 0 ≤ n ∧ n ≤ 149533581377536 ∧ textsE l = textsF n (l.drop i)) (fun (⟨i, n⟩ : Nat × Int) => l.length - i) ((0, (l.length : Int))) ?_ (by intro s; first | rfl | (rcases s with ⟨_, _⟩; rfl) | (rcases s with ⟨_, _, _⟩; rfl) | (rcases s with ⟨_, _, _, _⟩; rfl) | (rcases s with ⟨_, _, _, _, _⟩; rfl)) ?_)
  · simp (maxSteps := 900000) (disch := omega) only [go_sem, Nat.reduceEqDiff, ↓reduceIte, reduceCtorEq, Nat.reduceAdd, Nat.reduceMul, Int.reduceToNat, List.reduceReplicate, Nat.reduceLeDiff, Nat.reduceLT, Int.reduceLT, Int.reduceLE, Int.reduceEq]; exact ⟨by omega, by omega, by omega, rfl⟩
  · rintro ⟨i, n⟩ ⟨h1, h2, h3, h4⟩
    replace h1 : i ≤ l.length := h1
    replace h2 : 0 ≤ n := h2
    replace h3 : n ≤ 149533581377536 := h3
    replace h4 : textsE l = textsF n (l.drop i) := h4
    have hsz : i < l.length → (nth l i).size ≤ 140737488351232 := fun h => hs _ (nth_mem h)
    by_cases hi : i < l.length
    · have hz := hsz hi
      by_cases hn : n ≤ 400000
      · rw [textsF_step hi hn] at h4
        repeat' (first | with_reducible refine inw ?_ | simp (maxSteps := 900000) (disch := omega) only [go_sem, Nat.reduceEqDiff, ↓reduceIte, reduceCtorEq, Nat.reduceAdd, Nat.reduceMul, Int.reduceToNat, List.reduceReplicate, Nat.reduceLeDiff, Nat.reduceLT, Int.reduceLT, Int.reduceLE, Int.reduceEq] | with_reducible refine pickB_f ?_ | with_reducible refine giv_intro fun _h => ?_ | with_reducible refine alt_intro ?_ fun _h => ?_ | with_reducible refine pickD_nil ?_ | (with_reducible refine brc (fun _h => ?_) fun _h => ?_) <;> first | (exfalso; omega) | simp only [decide_eq_false _h] | simp only [(_h : (_ : Bool) = _)] | simp only [decide_eq_true _h] | skip)
        exact ⟨(i + 1, _), ⟨by omega, by omega, by omega, by omega, h4⟩, rfl, rfl⟩
      · rw [textsF_stop _ hn] at h4
        repeat' (first | with_reducible refine inw ?_ | simp (maxSteps := 900000) (disch := omega) only [go_sem, Nat.reduceEqDiff, ↓reduceIte, reduceCtorEq, Nat.reduceAdd, Nat.reduceMul, Int.reduceToNat, List.reduceReplicate, Nat.reduceLeDiff, Nat.reduceLT, Int.reduceLT, Int.reduceLE, Int.reduceEq] | with_reducible refine pickB_f ?_ | with_reducible refine giv_intro fun _h => ?_ | with_reducible refine alt_intro ?_ fun _h => ?_ | with_reducible refine pickD_nil ?_ | (with_reducible refine brc (fun _h => ?_) fun _h => ?_) <;> first | (exfalso; omega) | simp only [decide_eq_false _h] | simp only [(_h : (_ : Bool) = _)] | simp only [decide_eq_true _h] | skip)
        exact h4.symm
    · rw [List.drop_of_length_le (by omega)] at h4
      repeat' (first | with_reducible refine inw ?_ | simp (maxSteps := 900000) (disch := omega) only [go_sem, Nat.reduceEqDiff, ↓reduceIte, reduceCtorEq, Nat.reduceAdd, Nat.reduceMul, Int.reduceToNat, List.reduceReplicate, Nat.reduceLeDiff, Nat.reduceLT, Int.reduceLT, Int.reduceLE, Int.reduceEq] | with_reducible refine pickB_f ?_ | with_reducible refine giv_intro fun _h => ?_ | with_reducible refine alt_intro ?_ fun _h => ?_ | with_reducible refine pickD_nil ?_ | (with_reducible refine brc (fun _h => ?_) fun _h => ?_) <;> first | (exfalso; omega) | simp only [decide_eq_false _h] | simp only [(_h : (_ : Bool) = _)] | simp only [decide_eq_true _h] | skip)
      exact h4.symm

def gramsF : Int → List Gram → Int
  | n, [] => n
  | n, g :: l => if n ≤ 400000 then gramsF (n + textsE g.1) l else n
theorem gramsF_stop {n : Int} (l : List Gram) (h : ¬ n ≤ 400000) : gramsF n l = n := by cases l <;> simp [gramsF, h]
theorem gramsF_step {n : Int} {l : List Gram} {i : Nat} (hi : i < l.length) (h : n ≤ 400000) : gramsF n (l.drop i) = gramsF (n + textsE (nth l i).1) (l.drop (i + 1)) := by
  rw [nth_drop hi, gramsF, if_pos h]
def gramsE (l : List Gram) : Int := gramsF l.length l
theorem textsF_le : ∀ (l : List Str) (n : Int), 0 ≤ n → n ≤ 149533581377536 → (∀ s ∈ l, s.size ≤ 140737488351232) → 0 ≤ textsF n l ∧ textsF n l ≤ 149533581377536
  | [], n, h, h2, _ => ⟨h, h2⟩
  | s :: l, n, h, h2, hs => by
    rw [textsF]
    split
    · have := hs s (List.mem_cons_self ..)
      exact textsF_le l _ (by omega) (by omega) fun x hx => hs x (List.mem_cons_of_mem _ hx)
    · exact ⟨h, h2⟩
/-- ablaut/ablautlaw27.grams: 1 parameters, 0 captured -/
def s30 : SC := .seq (.reg [o1 2 (.mv (cI 0))])
  (.seq (.reg [o1 5 (.mv (.t 0)),
    o1 6 (.lenL (.t 5)),
    o1 3 (.mv (.t 6))])
   (.seq (.seq (.reg [o1 4 (.mv (cI 0))])
     (.block 0 (.loop (.seq (.seq (.reg [o1 7 (.mv (.t 4)),
          o1 8 (.mv (.t 0)),
          o1 9 (.lenL (.t 8)),
          o1 10 (.bin .lss (.t 7) (.t 9)),
          o1 11 (.mv (.t 10)),
          oT 12 (.mv (.t 3)) 11,
          oT 13 (.bin .leq (.t 12) (cI 400000)) 11,
          o1 14 (.pick (.t 11) (.t 13) (cB false))])
         (.cond (.t 14) (.skip) (.exit 0)))
        (.seq (.block 1 (.reg [o1 17 (.mv (.t 3)),
           o1 18 (.mv (.t 0)),
           o1 19 (.mv (.t 4)),
           o1 20 (.iaddr 2 (.t 18) (.t 19)),
           o1 21 (.faddr 0 (.t 20)),
           o1 22 (.load none (.t 21)),
           o1 23 (.call (.f 31) [(.t 22)]),
           o1 24 (.bin .add (.t 17) (.t 23)),
           o1 3 (.mv (.t 24))]))
         (.reg [o1 15 (.mv (.t 4)),
          o1 16 (.bin .add (.t 15) (cI 1)),
          o1 4 (.mv (.t 16))]))))))
    (.seq (.reg [o1 25 (.mv (.t 3)),
      o1 2 (.mv (.t 25))])
     (.ret))))
theorem s30_ok : lookF Try.prog 30 = some (s30, 26, [.tmp 2]) := by kernel_rfl
theorem grams_ok (l : List Gram) (hl : l.length ≤ 8796093022208) (hs : ∀ g ∈ l, g.1.length ≤ 8796093022208 ∧ ∀ s ∈ g.1, s.size ≤ 140737488351232) : Fn P 30 [sl l] (intA (gramsE l)) := by
  (refine fn_look s30_ok (by simp) (by intro k; simp only [go_sem, Nat.reduceEqDiff, ↓reduceIte, reduceCtorEq, Nat.reduceAdd, Nat.reduceMul, Int.reduceToNat, List.reduceReplicate, Nat.reduceLeDiff, Nat.reduceLT, Int.reduceLT, Int.reduceLE, Int.reduceEq]) fun S hS => cwp_sound _ _ _ _ ?_; simp (maxSteps := 900000) (disch := omega) only [s30, go_sem, Nat.reduceEqDiff, ↓reduceIte, reduceCtorEq, Nat.reduceAdd, Nat.reduceMul, Int.reduceToNat, List.reduceReplicate, Nat.reduceLeDiff, Nat.reduceLT, Int.reduceLT, Int.reduceLE, Int.reduceEq])
  repeat' (first | with_reducible refine inw ?_ | simp (maxSteps := 900000) (disch := omega) only [go_sem, Nat.reduceEqDiff, ↓reduceIte, reduceCtorEq, Nat.reduceAdd, Nat.reduceMul, Int.reduceToNat, List.reduceReplicate, Nat.reduceLeDiff, Nat.reduceLT, Int.reduceLT, Int.reduceLE, Int.reduceEq] | with_reducible refine pickB_f ?_ | with_reducible refine giv_intro fun _h => ?_ | with_reducible refine alt_intro ?_ fun _h => ?_ | with_reducible refine pickD_nil ?_ | (with_reducible refine brc (fun _h => ?_) fun _h => ?_) <;> first | (exfalso; omega) | simp only [decide_eq_false _h] | simp only [(_h : (_ : Bool) = _)] | simp only [decide_eq_true _h] | skip)
  (refine loopC hS [0] (by simp only [go_sem, Nat.reduceEqDiff, ↓reduceIte, reduceCtorEq, Nat.reduceAdd, Nat.reduceMul, Int.reduceToNat, List.reduceReplicate, Nat.reduceLeDiff, Nat.reduceLT, Int.reduceLT, Int.reduceLE, Int.reduceEq]; try rfl) (fun (⟨i, n⟩ : Nat × Int) => [(3, intA n), (4, intA i)]) (fun (⟨i, n⟩ : Nat × Int) => []) (fun (⟨i, n⟩ : Nat × Int) => i ≤ l.length ∧ 0 ≤ n ∧ n ≤ 299067162755072 ∧ gramsE l = gramsF n (l.drop i)) (fun (⟨i, n⟩ : Nat × Int) => l.length - i) ((0, (l.length : Int))) ?_ (by intro s; first | rfl | (rcases s with ⟨_, _⟩; rfl) | (rcases s with ⟨_, _, _⟩; rfl) | (rcases s with ⟨_, _, _, _⟩; rfl) | (rcases s with ⟨_, _, _, _, _⟩; rfl)) ?_)
  · simp (maxSteps := 900000) (disch := omega) only [go_sem, Nat.reduceEqDiff, ↓reduceIte, reduceCtorEq, Nat.reduceAdd, Nat.reduceMul, Int.reduceToNat, List.reduceReplicate, Nat.reduceLeDiff, Nat.reduceLT, Int.reduceLT, Int.reduceLE, Int.reduceEq]; exact ⟨by omega, by omega, by omega, rfl⟩
  · rintro ⟨i, n⟩ ⟨h1, h2, h3, h4⟩
    replace h1 : i ≤ l.length := h1
    replace h2 : 0 ≤ n := h2
    replace h3 : n ≤ 299067162755072 := h3
    replace h4 : gramsE l = gramsF n (l.drop i) := h4
    by_cases hi : i < l.length
    · by_cases hn : n ≤ 400000
      · have hg := hs _ (nth_mem hi)
        have ht := textsF_le (nth l i).1 (nth l i).1.length (by omega) (by omega) hg.2
        have c1 := texts_ok (nth l i).1 hg.1 hg.2
        change 0 ≤ textsE (nth l i).1 ∧ textsE (nth l i).1 ≤ _ at ht
        rw [gramsF_step hi hn] at h4
        repeat' (first | with_reducible refine inw ?_ | simp (maxSteps := 900000) (disch := omega) only [go_sem, Nat.reduceEqDiff, ↓reduceIte, reduceCtorEq, Nat.reduceAdd, Nat.reduceMul, Int.reduceToNat, List.reduceReplicate, Nat.reduceLeDiff, Nat.reduceLT, Int.reduceLT, Int.reduceLE, Int.reduceEq] | (with_reducible apply call (c1)); (focus simp (maxSteps := 900000) (disch := omega) only [go_sem, Nat.reduceEqDiff, ↓reduceIte, reduceCtorEq, Nat.reduceAdd, Nat.reduceMul, Int.reduceToNat, List.reduceReplicate, Nat.reduceLeDiff, Nat.reduceLT, Int.reduceLT, Int.reduceLE, Int.reduceEq] <;> rfl) | with_reducible refine pickB_f ?_ | with_reducible refine giv_intro fun _h => ?_ | with_reducible refine alt_intro ?_ fun _h => ?_ | with_reducible refine pickD_nil ?_ | (with_reducible refine brc (fun _h => ?_) fun _h => ?_) <;> first | (exfalso; omega) | simp only [decide_eq_false _h] | simp only [(_h : (_ : Bool) = _)] | simp only [decide_eq_true _h] | skip)
        exact ⟨(i + 1, _), ⟨by omega, by omega, by omega, by omega, h4⟩, rfl, rfl⟩
      · rw [gramsF_stop _ hn] at h4
        repeat' (first | with_reducible refine inw ?_ | simp (maxSteps := 900000) (disch := omega) only [go_sem, Nat.reduceEqDiff, ↓reduceIte, reduceCtorEq, Nat.reduceAdd, Nat.reduceMul, Int.reduceToNat, List.reduceReplicate, Nat.reduceLeDiff, Nat.reduceLT, Int.reduceLT, Int.reduceLE, Int.reduceEq] | with_reducible refine pickB_f ?_ | with_reducible refine giv_intro fun _h => ?_ | with_reducible refine alt_intro ?_ fun _h => ?_ | with_reducible refine pickD_nil ?_ | (with_reducible refine brc (fun _h => ?_) fun _h => ?_) <;> first | (exfalso; omega) | simp only [decide_eq_false _h] | simp only [(_h : (_ : Bool) = _)] | simp only [decide_eq_true _h] | skip)
        exact h4.symm
    · rw [List.drop_of_length_le (by omega)] at h4
      repeat' (first | with_reducible refine inw ?_ | simp (maxSteps := 900000) (disch := omega) only [go_sem, Nat.reduceEqDiff, ↓reduceIte, reduceCtorEq, Nat.reduceAdd, Nat.reduceMul, Int.reduceToNat, List.reduceReplicate, Nat.reduceLeDiff, Nat.reduceLT, Int.reduceLT, Int.reduceLE, Int.reduceEq] | with_reducible refine pickB_f ?_ | with_reducible refine giv_intro fun _h => ?_ | with_reducible refine alt_intro ?_ fun _h => ?_ | with_reducible refine pickD_nil ?_ | (with_reducible refine brc (fun _h => ?_) fun _h => ?_) <;> first | (exfalso; omega) | simp only [decide_eq_false _h] | simp only [(_h : (_ : Bool) = _)] | simp only [decide_eq_true _h] | skip)
      exact h4.symm
end Go.Proofs.Ytedbjmonfbpefaa.Ev

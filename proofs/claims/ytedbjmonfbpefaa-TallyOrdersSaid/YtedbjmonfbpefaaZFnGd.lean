/- The rows of words that stand one behind the other: the reference. -/
import Derived.Test.YtedbjmonfbpefaaZFnGc
set_option linter.unusedVariables false
set_option linter.unusedSimpArgs false
namespace Go.Proofs.Ytedbjmonfbpefaa.Ev
open Go Go.Proofs

def rowsT (l : List Str) (n : Nat) : List (List Str) := (List.range (l.length + 1 - n)).map fun i => (l.drop i).take n
def ones (r : List (List Str)) : List Gram := r.map fun w => (w, 1)
def gramT (l : List Str) (n : Int) : List Gram × Int := if 200 < l.length ∨ anyLong l = true then ([], 3) else if n < 1 ∨ 4 < n then ([], 1) else (insAG (ones (rowsT l n.toNat)), 0)
theorem rowsT_len (l : List Str) (n : Nat) : (rowsT l n).length = l.length + 1 - n := by rw [rowsT, List.length_map, List.length_range]
theorem rowsT_nth {l : List Str} {n i : Nat} (h : i < l.length + 1 - n) : nth (rowsT l n) i = (l.drop i).take n := by
  rw [nth_eq (by rw [rowsT_len]; exact h)]; simp [rowsT]
theorem ones_step {r : List (List Str)} {i : Nat} (h : i < r.length) : ones (r.take (i + 1)) = ones (r.take i) ++ [(nth r i, 1)] := by
  rw [List.take_add_one, nth_get? h]; simp [ones]
theorem ones_pos (r : List (List Str)) : ∀ g ∈ ones r, 0 < g.2 := fun g h => by
  simp only [ones, List.mem_map] at h; obtain ⟨w, _, rfl⟩ := h; exact Int.one_pos
theorem insAG_mem : ∀ (l : List Gram) (g : Gram), g ∈ insAG l → ∃ x ∈ l, x.1 = g.1 := by
  refine snoc_ind (by simp [insAG]) fun l x ih g hg => ?_
  rw [insAG_snoc] at hg
  rcases insG_mem hg with h | ⟨y, hy, e⟩
  · exact ⟨x, by simp, h.symm⟩
  · obtain ⟨z, hz, e2⟩ := ih y hy
    exact ⟨z, by simp [hz], e2.trans e⟩
/-- What counts in a gram is no more than what all count. -/
theorem valG_mem {l : List Gram} {g : Gram} (ha : AscG l) (h : g ∈ l) : valG l g.1 = g.2 := by
  induction l with
  | nil => cases h
  | cons x l ih =>
    rcases List.mem_cons.1 h with rfl | h
    · rw [valG, if_pos rfl]
    · have := asc_ne ha g h
      rw [valG, if_neg (Ne.symm this)]
      exact ih (List.pairwise_cons.1 ha).2 h
theorem sumG_le {l : List Gram} {M : Int} (h : ∀ g ∈ l, 0 ≤ g.2 ∧ g.2 ≤ M) (w : List Str) : 0 ≤ sumG l w ∧ sumG l w ≤ M * l.length := by
  induction l with
  | nil => simp [sumG]
  | cons x l ih =>
    have h1 := h x (by simp)
    have h2 := ih fun g hg => h g (by simp [hg])
    rw [sumG_cons, List.length_cons]
    have h3 : M * ((l.length + 1 : Nat) : Int) = M * l.length + M := by rw [Int.natCast_add, Int.mul_add]; simp
    rw [h3]
    split <;> omega
theorem insAG_le {l : List Gram} {M : Int} (h : ∀ g ∈ l, 0 < g.2 ∧ g.2 ≤ M) : ∀ g ∈ insAG l, 0 ≤ g.2 ∧ g.2 ≤ M * l.length := fun g hg => by
  obtain ⟨h1, h2, h3⟩ := insAG_facts l fun g hg => (h g hg).1
  have h4 := h3 g.1
  rw [valG_mem h1 hg] at h4
  rw [h4]
  exact sumG_le (fun g hg => by have := h g hg; omega) g.1
/-- ablaut/ablautref27.Grams: 2 parameters, 0 captured -/
def s38 : SC := .seq (.reg [o1 4 (.mv (.c (.slice none 0 0))),
   o1 5 (.mv (cI 0))])
  (.seq (.seq (.reg [o1 8 (.mv (.t 0)),
     o1 9 (.lenL (.t 8)),
     o1 10 (.bin .gtr (.t 9) (cI 200)),
     o1 11 (.mv (.t 10)),
     oF 12 (.mv (.t 0)) 11,
     oF 13 (.call (.f 90) [(.t 12)]) 11,
     o1 14 (.pick (.t 11) (cB true) (.t 13))])
    (.cond (.t 14) (.seq (.reg [o1 4 (.mv (.c (.slice none 0 0))),
       o1 5 (.mv (cI 3))])
      (.ret)) (.skip)))
   (.seq (.seq (.reg [o1 15 (.mv (.t 1)),
      o1 16 (.bin .lss (.t 15) (cI 1)),
      o1 17 (.mv (.t 16)),
      oF 18 (.mv (.t 1)) 17,
      oF 19 (.bin .gtr (.t 18) (cI 4)) 17,
      o1 20 (.pick (.t 17) (cB true) (.t 19))])
     (.cond (.t 20) (.seq (.reg [o1 4 (.mv (.c (.slice none 0 0))),
        o1 5 (.mv (cI 1))])
       (.ret)) (.skip)))
    (.seq (.reg [o1 6 (.mv (.c (.slice none 0 0)))])
     (.seq (.seq (.reg [o1 7 (.mv (cI 0))])
       (.block 0 (.loop (.seq (.seq (.reg [o1 21 (.mv (.t 7)),
            o1 22 (.mv (.t 1)),
            o1 23 (.bin .add (.t 21) (.t 22)),
            o1 24 (.mv (.t 0)),
            o1 25 (.lenL (.t 24)),
            o1 26 (.bin .leq (.t 23) (.t 25))])
           (.cond (.t 26) (.skip) (.exit 0)))
          (.seq (.block 1 (.reg [o1 29 (.mv (.t 6)),
             o1 30 (.mv (.t 0)),
             o1 31 (.mv (.t 7)),
             o1 32 (.mv (.t 7)),
             o1 33 (.mv (.t 1)),
             o1 34 (.bin .add (.t 32) (.t 33)),
             o1 35 (.sl 1 (.t 30) (some (.t 31)) (some (.t 34))),
             o1 36 (.call (.f 91) [(.t 29), (.t 35), (cI 1)]),
             o1 6 (.mv (.t 36))]))
           (.reg [o1 27 (.mv (.t 7)),
            o1 28 (.bin .add (.t 27) (cI 1)),
            o1 7 (.mv (.t 28))]))))))
      (.seq (.reg [o1 37 (.mv (.t 6)),
        o1 4 (.mv (.t 37)),
        o1 5 (.mv (cI 0))])
       (.ret))))))
theorem s38_ok : lookF Try.prog 38 = some (s38, 38, [.tmp 4, .tmp 5]) := by kernel_rfl
theorem rGrams_ok (l : List Str) (n : Int) (hl : l.length ≤ 8796093022208) : Fn P 38 [sl l, intA n] (.tup [sl (gramT l n).1, intA (gramT l n).2]) := by
  have c1 := rAnyLong_ok l hl
  by_cases h1 : 200 < l.length ∨ anyLong l = true
  · rw [gramT, if_pos h1]
    by_cases h2 : 200 < l.length
    · (refine fn_look s38_ok (by simp) (by intro k; simp only [go_sem, Nat.reduceEqDiff, ↓reduceIte, reduceCtorEq, Nat.reduceAdd, Nat.reduceMul, Int.reduceToNat, List.reduceReplicate, Nat.reduceLeDiff, Nat.reduceLT, Int.reduceLT, Int.reduceLE, Int.reduceEq]) fun S hS => cwp_sound _ _ _ _ ?_; simp (maxSteps := 900000) (disch := omega) only [s38, go_sem, Nat.reduceEqDiff, ↓reduceIte, reduceCtorEq, Nat.reduceAdd, Nat.reduceMul, Int.reduceToNat, List.reduceReplicate, Nat.reduceLeDiff, Nat.reduceLT, Int.reduceLT, Int.reduceLE, Int.reduceEq])
      repeat' (first | with_reducible refine inw ?_ | simp (maxSteps := 900000) (disch := omega) only [go_sem, Nat.reduceEqDiff, ↓reduceIte, reduceCtorEq, Nat.reduceAdd, Nat.reduceMul, Int.reduceToNat, List.reduceReplicate, Nat.reduceLeDiff, Nat.reduceLT, Int.reduceLT, Int.reduceLE, Int.reduceEq] | (with_reducible apply call (c1)); (focus simp (maxSteps := 900000) (disch := omega) only [go_sem, Nat.reduceEqDiff, ↓reduceIte, reduceCtorEq, Nat.reduceAdd, Nat.reduceMul, Int.reduceToNat, List.reduceReplicate, Nat.reduceLeDiff, Nat.reduceLT, Int.reduceLT, Int.reduceLE, Int.reduceEq] <;> rfl) | with_reducible refine pickB_f ?_ | with_reducible refine giv_intro fun _h => ?_ | with_reducible refine alt_intro ?_ fun _h => ?_ | with_reducible refine pickD_nil ?_ | (with_reducible refine brc (fun _h => ?_) fun _h => ?_) <;> first | (exfalso; omega) | simp only [decide_eq_false _h] | simp only [(_h : (_ : Bool) = _)] | simp only [decide_eq_true _h] | skip)
      all_goals rfl
    · have h3 : anyLong l = true := h1.resolve_left h2
      rw [h3] at c1
      (refine fn_look s38_ok (by simp) (by intro k; simp only [go_sem, Nat.reduceEqDiff, ↓reduceIte, reduceCtorEq, Nat.reduceAdd, Nat.reduceMul, Int.reduceToNat, List.reduceReplicate, Nat.reduceLeDiff, Nat.reduceLT, Int.reduceLT, Int.reduceLE, Int.reduceEq]) fun S hS => cwp_sound _ _ _ _ ?_; simp (maxSteps := 900000) (disch := omega) only [s38, go_sem, Nat.reduceEqDiff, ↓reduceIte, reduceCtorEq, Nat.reduceAdd, Nat.reduceMul, Int.reduceToNat, List.reduceReplicate, Nat.reduceLeDiff, Nat.reduceLT, Int.reduceLT, Int.reduceLE, Int.reduceEq])
      repeat' (first | with_reducible refine inw ?_ | simp (maxSteps := 900000) (disch := omega) only [go_sem, Nat.reduceEqDiff, ↓reduceIte, reduceCtorEq, Nat.reduceAdd, Nat.reduceMul, Int.reduceToNat, List.reduceReplicate, Nat.reduceLeDiff, Nat.reduceLT, Int.reduceLT, Int.reduceLE, Int.reduceEq] | (with_reducible apply call (c1)); (focus simp (maxSteps := 900000) (disch := omega) only [go_sem, Nat.reduceEqDiff, ↓reduceIte, reduceCtorEq, Nat.reduceAdd, Nat.reduceMul, Int.reduceToNat, List.reduceReplicate, Nat.reduceLeDiff, Nat.reduceLT, Int.reduceLT, Int.reduceLE, Int.reduceEq] <;> rfl) | with_reducible refine pickB_f ?_ | with_reducible refine giv_intro fun _h => ?_ | with_reducible refine alt_intro ?_ fun _h => ?_ | with_reducible refine pickD_nil ?_ | (with_reducible refine brc (fun _h => ?_) fun _h => ?_) <;> first | (exfalso; omega) | simp only [decide_eq_false _h] | simp only [(_h : (_ : Bool) = _)] | simp only [decide_eq_true _h] | skip)
      all_goals rfl
  have h3 : anyLong l = false := by cases h : anyLong l; rfl; exact absurd (.inr h) h1
  rw [h3] at c1
  by_cases h4 : n < 1 ∨ 4 < n
  · rw [gramT, if_neg h1, if_pos h4]
    (refine fn_look s38_ok (by simp) (by intro k; simp only [go_sem, Nat.reduceEqDiff, ↓reduceIte, reduceCtorEq, Nat.reduceAdd, Nat.reduceMul, Int.reduceToNat, List.reduceReplicate, Nat.reduceLeDiff, Nat.reduceLT, Int.reduceLT, Int.reduceLE, Int.reduceEq]) fun S hS => cwp_sound _ _ _ _ ?_; simp (maxSteps := 900000) (disch := omega) only [s38, go_sem, Nat.reduceEqDiff, ↓reduceIte, reduceCtorEq, Nat.reduceAdd, Nat.reduceMul, Int.reduceToNat, List.reduceReplicate, Nat.reduceLeDiff, Nat.reduceLT, Int.reduceLT, Int.reduceLE, Int.reduceEq])
    repeat' (first | with_reducible refine inw ?_ | simp (maxSteps := 900000) (disch := omega) only [go_sem, Nat.reduceEqDiff, ↓reduceIte, reduceCtorEq, Nat.reduceAdd, Nat.reduceMul, Int.reduceToNat, List.reduceReplicate, Nat.reduceLeDiff, Nat.reduceLT, Int.reduceLT, Int.reduceLE, Int.reduceEq] | (with_reducible apply call (c1)); (focus simp (maxSteps := 900000) (disch := omega) only [go_sem, Nat.reduceEqDiff, ↓reduceIte, reduceCtorEq, Nat.reduceAdd, Nat.reduceMul, Int.reduceToNat, List.reduceReplicate, Nat.reduceLeDiff, Nat.reduceLT, Int.reduceLT, Int.reduceLE, Int.reduceEq] <;> rfl) | with_reducible refine pickB_f ?_ | with_reducible refine giv_intro fun _h => ?_ | with_reducible refine alt_intro ?_ fun _h => ?_ | with_reducible refine pickD_nil ?_ | (with_reducible refine brc (fun _h => ?_) fun _h => ?_) <;> first | (exfalso; omega) | simp only [decide_eq_false _h] | simp only [(_h : (_ : Bool) = _)] | simp only [decide_eq_true _h] | skip)
    all_goals rfl
  rw [gramT, if_neg h1, if_neg h4]
  obtain ⟨k, rfl⟩ : ∃ k : Nat, n = k := ⟨n.toNat, by omega⟩
  rw [Int.toNat_natCast]
  (refine fn_look s38_ok (by simp) (by intro k; simp only [go_sem, Nat.reduceEqDiff, ↓reduceIte, reduceCtorEq, Nat.reduceAdd, Nat.reduceMul, Int.reduceToNat, List.reduceReplicate, Nat.reduceLeDiff, Nat.reduceLT, Int.reduceLT, Int.reduceLE, Int.reduceEq]) fun S hS => cwp_sound _ _ _ _ ?_; simp (maxSteps := 900000) (disch := omega) only [s38, go_sem, Nat.reduceEqDiff, ↓reduceIte, reduceCtorEq, Nat.reduceAdd, Nat.reduceMul, Int.reduceToNat, List.reduceReplicate, Nat.reduceLeDiff, Nat.reduceLT, Int.reduceLT, Int.reduceLE, Int.reduceEq])
  repeat' (first | with_reducible refine inw ?_ | simp (maxSteps := 900000) (disch := omega) only [go_sem, Nat.reduceEqDiff, ↓reduceIte, reduceCtorEq, Nat.reduceAdd, Nat.reduceMul, Int.reduceToNat, List.reduceReplicate, Nat.reduceLeDiff, Nat.reduceLT, Int.reduceLT, Int.reduceLE, Int.reduceEq] | (with_reducible apply call (c1)); (focus simp (maxSteps := 900000) (disch := omega) only [go_sem, Nat.reduceEqDiff, ↓reduceIte, reduceCtorEq, Nat.reduceAdd, Nat.reduceMul, Int.reduceToNat, List.reduceReplicate, Nat.reduceLeDiff, Nat.reduceLT, Int.reduceLT, Int.reduceLE, Int.reduceEq] <;> rfl) | with_reducible refine pickB_f ?_ | with_reducible refine giv_intro fun _h => ?_ | with_reducible refine alt_intro ?_ fun _h => ?_ | with_reducible refine pickD_nil ?_ | (with_reducible refine brc (fun _h => ?_) fun _h => ?_) <;> first | (exfalso; omega) | simp only [decide_eq_false _h] | simp only [(_h : (_ : Bool) = _)] | simp only [decide_eq_true _h] | skip)
  refine nil_row 6 89 2 (by simp (maxSteps := 900000) (disch := omega) only [go_sem, Nat.reduceEqDiff, ↓reduceIte, reduceCtorEq, Nat.reduceAdd, Nat.reduceMul, Int.reduceToNat, List.reduceReplicate, Nat.reduceLeDiff, Nat.reduceLT, Int.reduceLT, Int.reduceLE, Int.reduceEq]) ?_
  (refine loopC hS [0, 1] (by simp only [go_sem, Nat.reduceEqDiff, ↓reduceIte, reduceCtorEq, Nat.reduceAdd, Nat.reduceMul, Int.reduceToNat, List.reduceReplicate, Nat.reduceLeDiff, Nat.reduceLT, Int.reduceLT, Int.reduceLE, Int.reduceEq]; try rfl) (fun (i : Nat) => [(6, own S 0 (insAG (ones ((rowsT l k).take i)))), (7, intA i)]) (fun (i : Nat) => [rowO 89 (insAG (ones ((rowsT l k).take i)))]) (fun (i : Nat) => i ≤ (rowsT l k).length) (fun (i : Nat) => (rowsT l k).length - i) (0) ?_ (by intro s; first | rfl | (rcases s with ⟨_, _⟩; rfl) | (rcases s with ⟨_, _, _⟩; rfl) | (rcases s with ⟨_, _, _, _⟩; rfl) | (rcases s with ⟨_, _, _, _, _⟩; rfl)) ?_)
  · simp (maxSteps := 900000) (disch := omega) only [go_sem, Nat.reduceEqDiff, ↓reduceIte, reduceCtorEq, Nat.reduceAdd, Nat.reduceMul, Int.reduceToNat, List.reduceReplicate, Nat.reduceLeDiff, Nat.reduceLT, Int.reduceLT, Int.reduceLE, Int.reduceEq]
    exact ⟨Nat.zero_le _, ⟨rfl, rfl⟩, rfl⟩
  rintro i hi
  replace hi : i ≤ (rowsT l k).length := hi
  rw [rowsT_len] at hi
  by_cases hil : i < l.length + 1 - k
  · have hst := ones_step (r := rowsT l k) (i := i) (by rw [rowsT_len]; exact hil)
    rw [rowsT_nth hil] at hst
    have hro : (ones ((rowsT l k).take i)).length = i := by rw [ones, List.length_map, List.length_take, rowsT_len]; omega
    have hln := insAG_len (ones ((rowsT l k).take i))
    have hf := insAG_facts _ (ones_pos ((rowsT l k).take i))
    have hle := insAG_le (l := ones ((rowsT l k).take i)) (M := 1) fun g hg => by
      simp only [ones, List.mem_map] at hg; obtain ⟨w, _, rfl⟩ := hg; exact ⟨Int.one_pos, Int.le_refl _⟩
    have hmem := insAG_mem (ones ((rowsT l k).take i))
    have hsl : ((i : Int) + k).toNat - i = k := by omega
    repeat' (first | with_reducible refine inw ?_ | simp (maxSteps := 900000) (disch := omega) only [go_sem, Nat.reduceEqDiff, ↓reduceIte, reduceCtorEq, Nat.reduceAdd, Nat.reduceMul, Int.reduceToNat, List.reduceReplicate, Nat.reduceLeDiff, Nat.reduceLT, Int.reduceLT, Int.reduceLE, Int.reduceEq, hsl] | with_reducible refine pickB_f ?_ | with_reducible refine giv_intro fun _h => ?_ | with_reducible refine alt_intro ?_ fun _h => ?_ | with_reducible refine pickD_nil ?_ | (with_reducible refine brc (fun _h => ?_) fun _h => ?_) <;> first | (exfalso; omega) | simp only [decide_eq_false _h] | simp only [(_h : (_ : Bool) = _)] | simp only [decide_eq_true _h] | skip)
    refine into_call hS _ _ 1 hf.1 (by omega) (by rw [List.length_take]; omega) (fun g hg => ?_) ⟨by decide, by decide⟩ (fun X => ?_)
    · obtain ⟨x, hx, e⟩ := hmem g hg
      have h5 := hle g hg
      refine ⟨?_, by omega, by omega⟩
      simp only [ones, List.mem_map] at hx
      obtain ⟨y, hy, rfl⟩ := hx
      have hy := List.mem_of_mem_take hy
      simp only [rowsT, List.mem_map] at hy
      obtain ⟨j, _, rfl⟩ := hy
      rw [← e]
      show ((l.drop j).take k).length ≤ _
      rw [List.length_take]; omega
    · have hst2 : insG ((l.drop i).take k) 1 (insAG (ones ((rowsT l k).take i))) = insAG (ones ((rowsT l k).take (i + 1))) := by rw [hst, insAG_snoc]
      rw [hst2]
      repeat' (first | with_reducible refine inw ?_ | simp (maxSteps := 900000) (disch := omega) only [go_sem, Nat.reduceEqDiff, ↓reduceIte, reduceCtorEq, Nat.reduceAdd, Nat.reduceMul, Int.reduceToNat, List.reduceReplicate, Nat.reduceLeDiff, Nat.reduceLT, Int.reduceLT, Int.reduceLE, Int.reduceEq] | with_reducible refine pickB_f ?_ | with_reducible refine giv_intro fun _h => ?_ | with_reducible refine alt_intro ?_ fun _h => ?_ | with_reducible refine pickD_nil ?_ | (with_reducible refine brc (fun _h => ?_) fun _h => ?_) <;> first | (exfalso; omega) | simp only [decide_eq_false _h] | simp only [(_h : (_ : Bool) = _)] | simp only [decide_eq_true _h] | skip)
      exact ⟨i + 1, ⟨by rw [rowsT_len]; omega, by rw [rowsT_len]; omega⟩, ⟨⟨rfl, rfl⟩, by omega⟩, rfl⟩
  · rw [List.take_of_length_le (by rw [rowsT_len]; omega)]
    repeat' (first | with_reducible refine inw ?_ | simp (maxSteps := 900000) (disch := omega) only [go_sem, Nat.reduceEqDiff, ↓reduceIte, reduceCtorEq, Nat.reduceAdd, Nat.reduceMul, Int.reduceToNat, List.reduceReplicate, Nat.reduceLeDiff, Nat.reduceLT, Int.reduceLT, Int.reduceLE, Int.reduceEq] | with_reducible refine pickB_f ?_ | with_reducible refine giv_intro fun _h => ?_ | with_reducible refine alt_intro ?_ fun _h => ?_ | with_reducible refine pickD_nil ?_ | (with_reducible refine brc (fun _h => ?_) fun _h => ?_) <;> first | (exfalso; omega) | simp only [decide_eq_false _h] | simp only [(_h : (_ : Bool) = _)] | simp only [decide_eq_true _h] | skip)
    all_goals skip
end Go.Proofs.Ytedbjmonfbpefaa.Ev

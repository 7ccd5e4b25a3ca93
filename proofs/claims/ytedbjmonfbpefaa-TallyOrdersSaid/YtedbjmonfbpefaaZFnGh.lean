/- The rows of words that stand one behind the other: the program. -/
import Derived.Test.YtedbjmonfbpefaaZFnGg
import Derived.Test.YtedbjmonfbpefaaZEvW
import Derived.Test.YtedbjmonfbpefaaZLaySortW
set_option linter.unusedVariables false
set_option linter.unusedSimpArgs false
namespace Go.Proofs.Ytedbjmonfbpefaa.Ev
open Go Go.Proofs

theorem swo_cmpL : Sort.SWO (ltOf cmpL) where
  irrefl x := by have := (cmpL_zero x x).2 rfl; simp [ltOf, this]
  trans x y z h1 h2 := by simp only [ltOf, decide_eq_true_eq] at *; exact cmpL_trans h1 h2
  ntrans x y z h1 h2 := by
    simp only [ltOf, decide_eq_false_iff_not] at *
    intro h3
    have a1 := cmpL_anti x y
    have a2 := cmpL_anti y z
    rcases Int.lt_or_eq_of_le (show cmpL y x ≤ 0 by omega) with h4 | h4
    · exact h2 (cmpL_trans h4 h3)
    · have := (cmpL_zero y x).1 h4; subst this; exact h2 h3
theorem runsG_le {l out : List Gram} {M : Int} (h : RunsG l out) (hm : ∀ g ∈ l, 0 ≤ g.2 ∧ g.2 ≤ M) : ∀ g ∈ out, 0 < g.2 ∧ g.2 ≤ M * l.length := fun g hg => by
  have h1 := valG_mem h.asc hg
  have h2 := h.val g.1
  have h3 := sumG_le hm g.1
  exact ⟨h.pos g hg, by omega⟩
theorem last_of {out : List Gram} (h : 0 < out.length) : ∃ o g, out = o ++ [g] ∧ o.length = out.length - 1 ∧ nth out (out.length - 1) = g := by
  have hne : out ≠ [] := fun e => by rw [e] at h; simp at h
  refine ⟨out.dropLast, out.getLast hne, (List.dropLast_concat_getLast hne).symm, by simp, ?_⟩
  rw [nth_eq (by omega), List.getLast_eq_getElem]
theorem put_last {o : List Gram} {g x : Gram} {k : Nat} (h : k = o.length) : putAt (o ++ [g]) k x = o ++ [x] := by
  subst h
  rw [putAt, List.take_left' rfl, List.drop_of_length_le (by simp)]
/-- slices.Clone[[]string,string]: 1 parameters, 0 captured -/
def s89 : SC := .seq (.reg [o1 2 (.mv (.c (.slice none 0 0)))])
  (.seq (.seq (.reg [o1 3 (.mv (.t 0)),
     o1 4 (.eq false .slice (.t 3) (.c (.slice none 0 0)))])
    (.cond (.t 4) (.seq (.reg [o1 2 (.mv (.c (.slice none 0 0)))])
      (.ret)) (.skip)))
   (.seq (.reg [o1 5 (.buildSl 9 1 0 [(.string ⟨#[]⟩)] []),
     o1 6 (.mv (.t 0)),
     o1 7 (.app 9 1 16 (.t 5) (.t 6)),
     o1 2 (.mv (.t 7))])
    (.ret)))
theorem s89_ok : lookF Try.prog 89 = some (s89, 8, [.tmp 2]) := by kernel_rfl
theorem cloneW_ok (l : List Str) (hl : l.length ≤ 8796093022208) : Fn P 89 [sl l] (sl l) := by
  (refine fn_look s89_ok (by simp) (by intro k; simp only [go_sem, Nat.reduceEqDiff, ↓reduceIte, reduceCtorEq, Nat.reduceAdd, Nat.reduceMul, Int.reduceToNat, List.reduceReplicate, Nat.reduceLeDiff, Nat.reduceLT, Int.reduceLT, Int.reduceLE, Int.reduceEq]) fun S hS => cwp_sound _ _ _ _ ?_; simp (maxSteps := 900000) (disch := omega) only [s89, go_sem, Nat.reduceEqDiff, ↓reduceIte, reduceCtorEq, Nat.reduceAdd, Nat.reduceMul, Int.reduceToNat, List.reduceReplicate, Nat.reduceLeDiff, Nat.reduceLT, Int.reduceLT, Int.reduceLE, Int.reduceEq])
  repeat' (first | with_reducible refine inw ?_ | simp (maxSteps := 900000) (disch := omega) only [go_sem, Nat.reduceEqDiff, ↓reduceIte, reduceCtorEq, Nat.reduceAdd, Nat.reduceMul, Int.reduceToNat, List.reduceReplicate, Nat.reduceLeDiff, Nat.reduceLT, Int.reduceLT, Int.reduceLE, Int.reduceEq] | with_reducible refine pickB_f ?_ | with_reducible refine giv_intro fun _h => ?_ | with_reducible refine alt_intro ?_ fun _h => ?_ | with_reducible refine pickD_nil ?_ | (with_reducible refine brc (fun _h => ?_) fun _h => ?_) <;> first | (exfalso; omega) | simp only [decide_eq_false _h] | simp only [(_h : (_ : Bool) = _)] | simp only [decide_eq_true _h] | skip)
  rw [List.eq_nil_of_length_eq_zero _h]; rfl
theorem ones_mem {r : List (List Str)} {g : Gram} (h : g ∈ ones r) : g.1 ∈ r ∧ g.2 = 1 := by
  simp only [ones, List.mem_map] at h
  obtain ⟨w, hw, rfl⟩ := h
  exact ⟨hw, rfl⟩
theorem pair_le {l : List (List Str)} (hs : l.Pairwise fun x y => ¬cmpL y x < 0) {i : Nat} (hi : i < l.length) : ∀ y ∈ ones (l.take i), cmpL y.1 (nth l i) ≤ 0 := fun y hy => by
  obtain ⟨h1, _⟩ := ones_mem hy
  obtain ⟨j, hj, hje⟩ := List.getElem_of_mem h1
  rw [List.length_take] at hj
  rw [List.getElem_take] at hje
  have := List.pairwise_iff_getElem.1 hs j i (by omega) hi (by omega)
  rw [hje] at this
  rw [nth_eq hi]
  have h2 := cmpL_anti y.1 l[i]
  omega
/-- ablaut/tally.Grams: 2 parameters, 0 captured -/
def s37 : SC := .seq (.reg [o1 4 (.mv (.c (.slice none 0 0))),
   o1 5 (.mv (cI 0))])
  (.seq (.seq (.reg [o1 12 (.mv (.t 0)),
     o1 13 (.lenL (.t 12)),
     o1 14 (.bin .gtr (.t 13) (cI 200)),
     o1 15 (.mv (.t 14)),
     oF 16 (.mv (.t 0)) 15,
     oF 17 (.call (.f 85) [(.t 16), (.f 86)]) 15,
     o1 18 (.pick (.t 15) (cB true) (.t 17))])
    (.cond (.t 18) (.seq (.reg [o1 4 (.mv (.c (.slice none 0 0))),
       o1 5 (.mv (cI 3))])
      (.ret)) (.skip)))
   (.seq (.seq (.reg [o1 19 (.mv (.t 1)),
      o1 20 (.bin .lss (.t 19) (cI 1)),
      o1 21 (.mv (.t 20)),
      oF 22 (.mv (.t 1)) 21,
      oF 23 (.bin .gtr (.t 22) (cI 4)) 21,
      o1 24 (.pick (.t 21) (cB true) (.t 23))])
     (.cond (.t 24) (.seq (.reg [o1 4 (.mv (.c (.slice none 0 0))),
        o1 5 (.mv (cI 1))])
       (.ret)) (.skip)))
    (.seq (.reg [o1 6 (.mv (.c (.slice none 0 0)))])
     (.seq (.seq (.reg [o1 7 (.mv (cI 0))])
       (.block 0 (.loop (.seq (.seq (.reg [o1 25 (.mv (.t 7)),
            o1 26 (.mv (.t 1)),
            o1 27 (.bin .add (.t 25) (.t 26)),
            o1 28 (.mv (.t 0)),
            o1 29 (.lenL (.t 28)),
            o1 30 (.bin .leq (.t 27) (.t 29))])
           (.cond (.t 30) (.skip) (.exit 0)))
          (.seq (.block 1 (.reg [o1 33 (.mv (.t 6)),
             o1 34 (.mv (.t 0)),
             o1 35 (.mv (.t 7)),
             o1 36 (.mv (.t 7)),
             o1 37 (.mv (.t 1)),
             o1 38 (.bin .add (.t 36) (.t 37)),
             o1 39 (.sl 1 (.t 34) (some (.t 35)) (some (.t 38))),
             o1 40 (.buildSl 45 1 1 [(.slice none 0 0)] [(0, 1, (.t 39))]),
             o1 41 (.app 45 1 24 (.t 33) (.t 40)),
             o1 6 (.mv (.t 41))]))
           (.reg [o1 31 (.mv (.t 7)),
            o1 32 (.bin .add (.t 31) (cI 1)),
            o1 7 (.mv (.t 32))]))))))
      (.seq (.reg [o1 42 (.mv (.t 6)),
        o1 43 (.call (.f 87) [(.t 42), (.f 88)])])
       (.seq (.reg [o1 8 (.mv (.c (.slice none 0 0)))])
        (.seq (.seq (.reg [o1 44 (.mv (.t 6)),
           o1 45 (.lenL (.t 44)),
           o1 46 (.mv (cI 0))])
          (.block 2 (.loop (.seq (.reg [o1 47 (.bin .lss (.t 46) (.t 45))])
             (.seq (.cond (.t 47) (.skip) (.exit 2))
              (.seq (.block 3 (.seq (.reg [o1 48 (.iaddr 1 (.t 44) (.t 46)),
                  o1 49 (.load none (.t 48)),
                  o1 10 (.mv (.t 49))])
                 (.seq (.seq (.reg [o1 50 (.mv (.t 8)),
                    o1 51 (.lenL (.t 50)),
                    o1 11 (.mv (.t 51))])
                   (.seq (.reg [o1 52 (.mv (.t 11)),
                     o1 53 (.bin .gtr (.t 52) (cI 0)),
                     o1 54 (.mv (.t 53)),
                     oT 55 (.mv (.t 8)) 54,
                     oT 56 (.mv (.t 11)) 54,
                     oT 57 (.bin .sub (.t 56) (cI 1)) 54,
                     oT 58 (.iaddr 2 (.t 55) (.t 57)) 54,
                     oT 59 (.faddr 0 (.t 58)) 54,
                     oT 60 (.load none (.t 59)) 54,
                     oT 61 (.mv (.t 10)) 54,
                     oT 62 (.call (.f 69) [(.t 60), (.t 61)]) 54,
                     o1 63 (.pick (.t 54) (.t 62) (cB false))])
                    (.cond (.t 63) (.seq (.reg [o1 64 (.mv (.t 8)),
                       o1 65 (.mv (.t 11)),
                       o1 66 (.bin .sub (.t 65) (cI 1)),
                       o1 67 (.iaddr 2 (.t 64) (.t 66)),
                       o1 68 (.faddr 1 (.t 67)),
                       o1 69 (.load none (.t 68)),
                       o1 70 (.bin .add (.t 69) (cI 1)),
                       o1 71 (.iaddr 2 (.t 64) (.t 66)),
                       o1 72 (.faddr 1 (.t 71)),
                       o0 (.store 1 (.t 72) (.t 70))])
                      (.exit 3)) (.skip))))
                  (.reg [o1 73 (.mv (.t 8)),
                   o1 74 (.mv (.t 10)),
                   o1 75 (.call (.f 89) [(.t 74)]),
                   o1 76 (.build [(.slice none 0 0), (.int .i64 0)] [(0, 1, (.t 75)), (1, 1, (cI 1))]),
                   o1 77 (.buildSl 89 2 1 [(.slice none 0 0), (.int .i64 0)] [(0, 2, (.t 76))]),
                   o1 78 (.app 89 2 32 (.t 73) (.t 77)),
                   o1 8 (.mv (.t 78))]))))
               (.reg [o1 79 (.bin .add (.t 46) (cI 1)),
                o1 46 (.mv (.t 79))])))))))
         (.seq (.reg [o1 80 (.mv (.t 8)),
           o1 4 (.mv (.t 80)),
           o1 5 (.mv (cI 0))])
          (.ret)))))))))
theorem s37_ok : lookF Try.prog 37 = some (s37, 81, [.tmp 4, .tmp 5]) := by kernel_rfl
set_option maxHeartbeats 1000000 in
theorem tGrams_is (l : List Str) (n : Int) (hl : l.length ≤ 8796093022208) : Fn P 37 [sl l, intA n] (.tup [sl (gramT l n).1, intA (gramT l n).2]) := by
  have c1 := containsFunc_ok (fun s => decide (400 < s.size)) 86 isLong_ok l hl
  by_cases h1 : 200 < l.length ∨ anyLong l = true
  · rw [gramT, if_pos h1]
    by_cases h2 : 200 < l.length
    · (refine fn_look s37_ok (by simp) (by intro k; simp only [go_sem, Nat.reduceEqDiff, ↓reduceIte, reduceCtorEq, Nat.reduceAdd, Nat.reduceMul, Int.reduceToNat, List.reduceReplicate, Nat.reduceLeDiff, Nat.reduceLT, Int.reduceLT, Int.reduceLE, Int.reduceEq]) fun S hS => cwp_sound _ _ _ _ ?_; simp (maxSteps := 900000) (disch := omega) only [s37, go_sem, Nat.reduceEqDiff, ↓reduceIte, reduceCtorEq, Nat.reduceAdd, Nat.reduceMul, Int.reduceToNat, List.reduceReplicate, Nat.reduceLeDiff, Nat.reduceLT, Int.reduceLT, Int.reduceLE, Int.reduceEq])
      repeat' (first | with_reducible refine inw ?_ | simp (maxSteps := 900000) (disch := omega) only [go_sem, Nat.reduceEqDiff, ↓reduceIte, reduceCtorEq, Nat.reduceAdd, Nat.reduceMul, Int.reduceToNat, List.reduceReplicate, Nat.reduceLeDiff, Nat.reduceLT, Int.reduceLT, Int.reduceLE, Int.reduceEq] | (with_reducible apply call (c1)); (focus simp (maxSteps := 900000) (disch := omega) only [go_sem, Nat.reduceEqDiff, ↓reduceIte, reduceCtorEq, Nat.reduceAdd, Nat.reduceMul, Int.reduceToNat, List.reduceReplicate, Nat.reduceLeDiff, Nat.reduceLT, Int.reduceLT, Int.reduceLE, Int.reduceEq] <;> rfl) | with_reducible refine pickB_f ?_ | with_reducible refine giv_intro fun _h => ?_ | with_reducible refine alt_intro ?_ fun _h => ?_ | with_reducible refine pickD_nil ?_ | (with_reducible refine brc (fun _h => ?_) fun _h => ?_) <;> first | (exfalso; omega) | simp only [decide_eq_false _h] | simp only [(_h : (_ : Bool) = _)] | simp only [decide_eq_true _h] | skip)
      all_goals rfl
    · have h3 : l.any (fun s => decide (400 < s.size)) = true := h1.resolve_left h2
      rw [h3] at c1
      (refine fn_look s37_ok (by simp) (by intro k; simp only [go_sem, Nat.reduceEqDiff, ↓reduceIte, reduceCtorEq, Nat.reduceAdd, Nat.reduceMul, Int.reduceToNat, List.reduceReplicate, Nat.reduceLeDiff, Nat.reduceLT, Int.reduceLT, Int.reduceLE, Int.reduceEq]) fun S hS => cwp_sound _ _ _ _ ?_; simp (maxSteps := 900000) (disch := omega) only [s37, go_sem, Nat.reduceEqDiff, ↓reduceIte, reduceCtorEq, Nat.reduceAdd, Nat.reduceMul, Int.reduceToNat, List.reduceReplicate, Nat.reduceLeDiff, Nat.reduceLT, Int.reduceLT, Int.reduceLE, Int.reduceEq])
      repeat' (first | with_reducible refine inw ?_ | simp (maxSteps := 900000) (disch := omega) only [go_sem, Nat.reduceEqDiff, ↓reduceIte, reduceCtorEq, Nat.reduceAdd, Nat.reduceMul, Int.reduceToNat, List.reduceReplicate, Nat.reduceLeDiff, Nat.reduceLT, Int.reduceLT, Int.reduceLE, Int.reduceEq] | (with_reducible apply call (c1)); (focus simp (maxSteps := 900000) (disch := omega) only [go_sem, Nat.reduceEqDiff, ↓reduceIte, reduceCtorEq, Nat.reduceAdd, Nat.reduceMul, Int.reduceToNat, List.reduceReplicate, Nat.reduceLeDiff, Nat.reduceLT, Int.reduceLT, Int.reduceLE, Int.reduceEq] <;> rfl) | with_reducible refine pickB_f ?_ | with_reducible refine giv_intro fun _h => ?_ | with_reducible refine alt_intro ?_ fun _h => ?_ | with_reducible refine pickD_nil ?_ | (with_reducible refine brc (fun _h => ?_) fun _h => ?_) <;> first | (exfalso; omega) | simp only [decide_eq_false _h] | simp only [(_h : (_ : Bool) = _)] | simp only [decide_eq_true _h] | skip)
      all_goals rfl
  have h3 : l.any (fun s => decide (400 < s.size)) = false := by cases h : anyLong l; exact h; exact absurd (.inr h) h1
  rw [h3] at c1
  by_cases h4 : n < 1 ∨ 4 < n
  · rw [gramT, if_neg h1, if_pos h4]
    (refine fn_look s37_ok (by simp) (by intro k; simp only [go_sem, Nat.reduceEqDiff, ↓reduceIte, reduceCtorEq, Nat.reduceAdd, Nat.reduceMul, Int.reduceToNat, List.reduceReplicate, Nat.reduceLeDiff, Nat.reduceLT, Int.reduceLT, Int.reduceLE, Int.reduceEq]) fun S hS => cwp_sound _ _ _ _ ?_; simp (maxSteps := 900000) (disch := omega) only [s37, go_sem, Nat.reduceEqDiff, ↓reduceIte, reduceCtorEq, Nat.reduceAdd, Nat.reduceMul, Int.reduceToNat, List.reduceReplicate, Nat.reduceLeDiff, Nat.reduceLT, Int.reduceLT, Int.reduceLE, Int.reduceEq])
    repeat' (first | with_reducible refine inw ?_ | simp (maxSteps := 900000) (disch := omega) only [go_sem, Nat.reduceEqDiff, ↓reduceIte, reduceCtorEq, Nat.reduceAdd, Nat.reduceMul, Int.reduceToNat, List.reduceReplicate, Nat.reduceLeDiff, Nat.reduceLT, Int.reduceLT, Int.reduceLE, Int.reduceEq] | (with_reducible apply call (c1)); (focus simp (maxSteps := 900000) (disch := omega) only [go_sem, Nat.reduceEqDiff, ↓reduceIte, reduceCtorEq, Nat.reduceAdd, Nat.reduceMul, Int.reduceToNat, List.reduceReplicate, Nat.reduceLeDiff, Nat.reduceLT, Int.reduceLT, Int.reduceLE, Int.reduceEq] <;> rfl) | with_reducible refine pickB_f ?_ | with_reducible refine giv_intro fun _h => ?_ | with_reducible refine alt_intro ?_ fun _h => ?_ | with_reducible refine pickD_nil ?_ | (with_reducible refine brc (fun _h => ?_) fun _h => ?_) <;> first | (exfalso; omega) | simp only [decide_eq_false _h] | simp only [(_h : (_ : Bool) = _)] | simp only [decide_eq_true _h] | skip)
    all_goals rfl
  rw [gramT, if_neg h1, if_neg h4]
  obtain ⟨k, rfl⟩ : ∃ k : Nat, n = k := ⟨n.toNat, by omega⟩
  rw [Int.toNat_natCast]
  (refine fn_look s37_ok (by simp) (by intro k; simp only [go_sem, Nat.reduceEqDiff, ↓reduceIte, reduceCtorEq, Nat.reduceAdd, Nat.reduceMul, Int.reduceToNat, List.reduceReplicate, Nat.reduceLeDiff, Nat.reduceLT, Int.reduceLT, Int.reduceLE, Int.reduceEq]) fun S hS => cwp_sound _ _ _ _ ?_; simp (maxSteps := 900000) (disch := omega) only [s37, go_sem, Nat.reduceEqDiff, ↓reduceIte, reduceCtorEq, Nat.reduceAdd, Nat.reduceMul, Int.reduceToNat, List.reduceReplicate, Nat.reduceLeDiff, Nat.reduceLT, Int.reduceLT, Int.reduceLE, Int.reduceEq])
  repeat' (first | with_reducible refine inw ?_ | simp (maxSteps := 900000) (disch := omega) only [go_sem, Nat.reduceEqDiff, ↓reduceIte, reduceCtorEq, Nat.reduceAdd, Nat.reduceMul, Int.reduceToNat, List.reduceReplicate, Nat.reduceLeDiff, Nat.reduceLT, Int.reduceLT, Int.reduceLE, Int.reduceEq] | (with_reducible apply call (c1)); (focus simp (maxSteps := 900000) (disch := omega) only [go_sem, Nat.reduceEqDiff, ↓reduceIte, reduceCtorEq, Nat.reduceAdd, Nat.reduceMul, Int.reduceToNat, List.reduceReplicate, Nat.reduceLeDiff, Nat.reduceLT, Int.reduceLT, Int.reduceLE, Int.reduceEq] <;> rfl) | with_reducible refine pickB_f ?_ | with_reducible refine giv_intro fun _h => ?_ | with_reducible refine alt_intro ?_ fun _h => ?_ | with_reducible refine pickD_nil ?_ | (with_reducible refine brc (fun _h => ?_) fun _h => ?_) <;> first | (exfalso; omega) | simp only [decide_eq_false _h] | simp only [(_h : (_ : Bool) = _)] | simp only [decide_eq_true _h] | skip)
  refine nil_row 6 45 1 (by simp (maxSteps := 900000) (disch := omega) only [go_sem, Nat.reduceEqDiff, ↓reduceIte, reduceCtorEq, Nat.reduceAdd, Nat.reduceMul, Int.reduceToNat, List.reduceReplicate, Nat.reduceLeDiff, Nat.reduceLT, Int.reduceLT, Int.reduceLE, Int.reduceEq]) ?_
  (refine loopC hS [0, 1] (by simp only [go_sem, Nat.reduceEqDiff, ↓reduceIte, reduceCtorEq, Nat.reduceAdd, Nat.reduceMul, Int.reduceToNat, List.reduceReplicate, Nat.reduceLeDiff, Nat.reduceLT, Int.reduceLT, Int.reduceLE, Int.reduceEq]; try rfl) (fun (i : Nat) => [(6, own S 0 ((rowsT l k).take i)), (7, intA i)]) (fun (i : Nat) => [rowO 45 ((rowsT l k).take i)]) (fun (i : Nat) => i ≤ (rowsT l k).length) (fun (i : Nat) => (rowsT l k).length - i) (0) ?_ (by intro s; first | rfl | (rcases s with ⟨_, _⟩; rfl) | (rcases s with ⟨_, _, _⟩; rfl) | (rcases s with ⟨_, _, _, _⟩; rfl) | (rcases s with ⟨_, _, _, _, _⟩; rfl)) ?_)
  · simp (maxSteps := 900000) (disch := omega) only [go_sem, Nat.reduceEqDiff, ↓reduceIte, reduceCtorEq, Nat.reduceAdd, Nat.reduceMul, Int.reduceToNat, List.reduceReplicate, Nat.reduceLeDiff, Nat.reduceLT, Int.reduceLT, Int.reduceLE, Int.reduceEq]
    exact Nat.zero_le _
  rintro i hi
  replace hi : i ≤ (rowsT l k).length := hi
  rw [rowsT_len] at hi
  have hro : ((rowsT l k).take i).length = i := by rw [List.length_take, rowsT_len]; omega
  by_cases hil : i < l.length + 1 - k
  · have hst : (rowsT l k).take (i + 1) = (rowsT l k).take i ++ [(l.drop i).take k] := by
      rw [List.take_add_one, nth_get? (by rw [rowsT_len]; exact hil), rowsT_nth hil]; rfl
    have hsl : ((i : Int) + k).toNat - i = k := by omega
    repeat' (first | with_reducible refine inw ?_ | simp (maxSteps := 900000) (disch := omega) only [go_sem, Nat.reduceEqDiff, ↓reduceIte, reduceCtorEq, Nat.reduceAdd, Nat.reduceMul, Int.reduceToNat, List.reduceReplicate, Nat.reduceLeDiff, Nat.reduceLT, Int.reduceLT, Int.reduceLE, Int.reduceEq, hsl, hro] | with_reducible refine pickB_f ?_ | with_reducible refine giv_intro fun _h => ?_ | with_reducible refine alt_intro ?_ fun _h => ?_ | with_reducible refine pickD_nil ?_ | (with_reducible refine brc (fun _h => ?_) fun _h => ?_) <;> first | (exfalso; omega) | simp only [decide_eq_false _h] | simp only [(_h : (_ : Bool) = _)] | simp only [decide_eq_true _h] | skip)
    have h5 : ((rowsT l k).take (i + 1)).length = i + 1 := by rw [List.length_take, rowsT_len]; omega
    exact ⟨i + 1, ⟨by rw [rowsT_len]; omega, by rw [rowsT_len]; omega⟩, ⟨⟨h5.symm, h5.symm⟩, by omega⟩, by rw [hst]⟩
  rw [List.take_of_length_le (by rw [rowsT_len]; omega)] at *
  have hw4 : ∀ w ∈ rowsT l k, w.length ≤ 4 := fun w hw => by
    simp only [rowsT, List.mem_map] at hw
    obtain ⟨j, _, rfl⟩ := hw
    rw [List.length_take]; omega
  have hrl := rowsT_len l k
  generalize rowsT l k = rows at *
  repeat' (first | with_reducible refine inw ?_ | simp (maxSteps := 900000) (disch := omega) only [go_sem, Nat.reduceEqDiff, ↓reduceIte, reduceCtorEq, Nat.reduceAdd, Nat.reduceMul, Int.reduceToNat, List.reduceReplicate, Nat.reduceLeDiff, Nat.reduceLT, Int.reduceLT, Int.reduceLE, Int.reduceEq] | with_reducible refine pickB_f ?_ | with_reducible refine giv_intro fun _h => ?_ | with_reducible refine alt_intro ?_ fun _h => ?_ | with_reducible refine pickD_nil ?_ | (with_reducible refine brc (fun _h => ?_) fun _h => ?_) <;> first | (exfalso; omega) | simp only [decide_eq_false _h] | simp only [(_h : (_ : Bool) = _)] | simp only [decide_eq_true _h] | skip)
  refine sort1_call (ρ := sortW_ren) (e := 45) sortW ⟨_, Try.func87, by kernel_rfl, by kernel_rfl⟩ cmpL swo_cmpL (by simp) rows (by simp (maxSteps := 900000) (disch := omega) only [go_sem, Nat.reduceEqDiff, ↓reduceIte, reduceCtorEq, Nat.reduceAdd, Nat.reduceMul, Int.reduceToNat, List.reduceReplicate, Nat.reduceLeDiff, Nat.reduceLT, Int.reduceLT, Int.reduceLE, Int.reduceEq]) rfl (fun x hx y hy => slCompare_ok x y (by have := hw4 x hx; omega) (by have := hw4 y hy; omega)) (fun rows' hp hs => ?_)
  have hpl : rows'.length = rows.length := hp.length_eq
  simp only [List.set_cons_zero, own, ← hpl]
  repeat' (first | with_reducible refine inw ?_ | simp (maxSteps := 900000) (disch := omega) only [go_sem, Nat.reduceEqDiff, ↓reduceIte, reduceCtorEq, Nat.reduceAdd, Nat.reduceMul, Int.reduceToNat, List.reduceReplicate, Nat.reduceLeDiff, Nat.reduceLT, Int.reduceLT, Int.reduceLE, Int.reduceEq] | with_reducible refine pickB_f ?_ | with_reducible refine giv_intro fun _h => ?_ | with_reducible refine alt_intro ?_ fun _h => ?_ | with_reducible refine pickD_nil ?_ | (with_reducible refine brc (fun _h => ?_) fun _h => ?_) <;> first | (exfalso; omega) | simp only [decide_eq_false _h] | simp only [(_h : (_ : Bool) = _)] | simp only [decide_eq_true _h] | skip)
  refine nil_row 8 89 2 (by simp (maxSteps := 900000) (disch := omega) only [go_sem, Nat.reduceEqDiff, ↓reduceIte, reduceCtorEq, Nat.reduceAdd, Nat.reduceMul, Int.reduceToNat, List.reduceReplicate, Nat.reduceLeDiff, Nat.reduceLT, Int.reduceLT, Int.reduceLE, Int.reduceEq]) ?_
  (refine loopC hS [44, 45] (by simp only [go_sem, Nat.reduceEqDiff, ↓reduceIte, reduceCtorEq, Nat.reduceAdd, Nat.reduceMul, Int.reduceToNat, List.reduceReplicate, Nat.reduceLeDiff, Nat.reduceLT, Int.reduceLT, Int.reduceLE, Int.reduceEq]; try rfl) (fun (⟨i, out⟩ : Nat × List Gram) => [(8, own S 1 out), (46, intA i)]) (fun (⟨i, out⟩ : Nat × List Gram) => [rowO 45 rows', rowO 89 out]) (fun (⟨i, out⟩ : Nat × List Gram) => i ≤ rows'.length ∧ RunsG (ones (rows'.take i)) out) (fun (⟨i, out⟩ : Nat × List Gram) => rows'.length - i) ((0, [])) ?_ (by intro s; first | rfl | (rcases s with ⟨_, _⟩; rfl) | (rcases s with ⟨_, _, _⟩; rfl) | (rcases s with ⟨_, _, _, _⟩; rfl) | (rcases s with ⟨_, _, _, _, _⟩; rfl)) ?_)
  · simp (maxSteps := 900000) (disch := omega) only [go_sem, Nat.reduceEqDiff, ↓reduceIte, reduceCtorEq, Nat.reduceAdd, Nat.reduceMul, Int.reduceToNat, List.reduceReplicate, Nat.reduceLeDiff, Nat.reduceLT, Int.reduceLT, Int.reduceLE, Int.reduceEq]
    exact ⟨Nat.zero_le _, runsG_nil⟩
  rintro ⟨i, out⟩ ⟨hi2, hR⟩
  replace hi2 : i ≤ rows'.length := hi2
  replace hR : RunsG (ones (rows'.take i)) out := hR
  by_cases hir : i < rows'.length
  · have hst := ones_step hir
    have hro2 : (ones (rows'.take i)).length = i := by rw [ones, List.length_map, List.length_take]; omega
    have hol := hR.len
    have hle := runsG_le hR (M := 1) fun g hg => by rw [(ones_mem hg).2]; exact ⟨by decide, by decide⟩
    have z2 : zcells [Value.slice none 0 0, Value.int IntKind.i64 0] 2 = [.sc (.slice none 0 0), intA 0] := rfl
    have hnew : (∀ o g, out = o ++ [g] → g.1 ≠ nth rows' i) → ∃ s' : Nat × List Gram, (rows'.length - s'.1 < rows'.length - i ∧ s'.1 ≤ rows'.length ∧ RunsG (ones (rows'.take s'.1)) s'.2) ∧
        (((out.length + 1) * 2 = s'.2.length * 2 ∧ out.length + 1 = s'.2.length) ∧ (i : Int) + 1 = s'.1) ∧ cellsL out ++ [AV.ro (nth rows' i).length (cellsL (nth rows' i)), AV.sc (Value.int IntKind.i64 1)] = cellsL s'.2 := fun hne => by
      have hR2 := runsG_new (x := (nth rows' i, 1)) hR Int.one_pos (pair_le hs hir) hne
      rw [← hst] at hR2
      have h5 : (out ++ [((nth rows' i, 1) : Gram)]).length = out.length + 1 := by rw [List.length_append, List.length_singleton]
      exact ⟨(i + 1, out ++ [(nth rows' i, 1)]), ⟨by show rows'.length - (i + 1) < _; omega, by show i + 1 ≤ _; omega, hR2⟩, ⟨⟨by rw [h5], h5.symm⟩, by show (i : Int) + 1 = ((i + 1 : Nat) : Int); omega⟩, by show cellsL out ++ cellsL [((nth rows' i, 1) : Gram)] = _; rw [cellsL_app]⟩
    have c2 := cloneW_ok (nth rows' i) (by have := hw4 _ (hp.mem_iff.1 (nth_mem hir)); omega)
    have wr := hw4 _ (hp.mem_iff.1 (nth_mem hir))
    by_cases ho : 0 < out.length
    · obtain ⟨o, g, ho1, ho2, ho3⟩ := last_of ho
      have hgm : g ∈ out := by rw [ho1]; simp
      have hgb := hle g hgm
      have hgl : g.1.length ≤ 4 := by
        obtain ⟨x, hx, e⟩ := hR.mem g hgm
        have := hw4 _ (hp.mem_iff.1 (List.mem_of_mem_take (ones_mem hx).1))
        rw [← e]; exact this
      have c3 := slEqual_ok g.1 (nth rows' i) (by omega) (by omega)
      have e0 := cells2_0 (show out.length - 1 < out.length by omega)
      have e1 := cells2_1 (show out.length - 1 < out.length by omega)
      have e2 := put2_1 (show out.length - 1 < out.length by omega)
      rw [ho3] at e0 e1 e2
      have e3 : ((out.length : Int) - 1).toNat = out.length - 1 := by omega
      by_cases hq : g.1 = nth rows' i
      · rw [decide_eq_true hq] at c3
        repeat' (first | with_reducible refine inw ?_ | simp (maxSteps := 900000) (disch := omega) only [go_sem, Nat.reduceEqDiff, ↓reduceIte, reduceCtorEq, Nat.reduceAdd, Nat.reduceMul, Int.reduceToNat, List.reduceReplicate, Nat.reduceLeDiff, Nat.reduceLT, Int.reduceLT, Int.reduceLE, Int.reduceEq, e0, e1, e2, e3] | (with_reducible apply call (c2)); (focus simp (maxSteps := 900000) (disch := omega) only [go_sem, Nat.reduceEqDiff, ↓reduceIte, reduceCtorEq, Nat.reduceAdd, Nat.reduceMul, Int.reduceToNat, List.reduceReplicate, Nat.reduceLeDiff, Nat.reduceLT, Int.reduceLT, Int.reduceLE, Int.reduceEq, e0, e1, e2, e3] <;> rfl) | (with_reducible apply call (c3)); (focus simp (maxSteps := 900000) (disch := omega) only [go_sem, Nat.reduceEqDiff, ↓reduceIte, reduceCtorEq, Nat.reduceAdd, Nat.reduceMul, Int.reduceToNat, List.reduceReplicate, Nat.reduceLeDiff, Nat.reduceLT, Int.reduceLT, Int.reduceLE, Int.reduceEq, e0, e1, e2, e3] <;> rfl) | with_reducible refine pickB_f ?_ | with_reducible refine giv_intro fun _h => ?_ | with_reducible refine alt_intro ?_ fun _h => ?_ | with_reducible refine pickD_nil ?_ | (with_reducible refine brc (fun _h => ?_) fun _h => ?_) <;> first | (exfalso; omega) | simp only [decide_eq_false _h] | simp only [(_h : (_ : Bool) = _)] | simp only [decide_eq_true _h] | skip)
        have hR2 := runsG_same (x := (nth rows' i, 1)) (ho1 ▸ hR) Int.one_pos hq
        have hpu : putAt out (out.length - 1) (g.1, g.2 + 1) = o ++ [(g.1, g.2 + 1)] := by rw [← ho2, ho1]; exact put_last rfl
        rw [← hst, ← hpu] at hR2
        have h5 : (putAt out (out.length - 1) (g.1, g.2 + 1)).length = out.length := putAt_len (by omega) _
        exact ⟨(i + 1, putAt out (out.length - 1) (g.1, g.2 + 1)), ⟨by show rows'.length - (i + 1) < _; omega, by show i + 1 ≤ _; omega, hR2⟩, ⟨⟨by show _ = (putAt out (out.length - 1) (g.1, g.2 + 1)).length * 2; rw [h5], h5.symm⟩, by show (i : Int) + 1 = ((i + 1 : Nat) : Int); omega⟩, rfl⟩
      · rw [decide_eq_false hq] at c3
        repeat' (first | with_reducible refine inw ?_ | simp (maxSteps := 900000) (disch := omega) only [go_sem, Nat.reduceEqDiff, ↓reduceIte, reduceCtorEq, Nat.reduceAdd, Nat.reduceMul, Int.reduceToNat, List.reduceReplicate, Nat.reduceLeDiff, Nat.reduceLT, Int.reduceLT, Int.reduceLE, Int.reduceEq, e0, e1, e2, e3, z2] | (with_reducible apply call (c2)); (focus simp (maxSteps := 900000) (disch := omega) only [go_sem, Nat.reduceEqDiff, ↓reduceIte, reduceCtorEq, Nat.reduceAdd, Nat.reduceMul, Int.reduceToNat, List.reduceReplicate, Nat.reduceLeDiff, Nat.reduceLT, Int.reduceLT, Int.reduceLE, Int.reduceEq, e0, e1, e2, e3, z2] <;> rfl) | (with_reducible apply call (c3)); (focus simp (maxSteps := 900000) (disch := omega) only [go_sem, Nat.reduceEqDiff, ↓reduceIte, reduceCtorEq, Nat.reduceAdd, Nat.reduceMul, Int.reduceToNat, List.reduceReplicate, Nat.reduceLeDiff, Nat.reduceLT, Int.reduceLT, Int.reduceLE, Int.reduceEq, e0, e1, e2, e3, z2] <;> rfl) | with_reducible refine pickB_f ?_ | with_reducible refine giv_intro fun _h => ?_ | with_reducible refine alt_intro ?_ fun _h => ?_ | with_reducible refine pickD_nil ?_ | (with_reducible refine brc (fun _h => ?_) fun _h => ?_) <;> first | (exfalso; omega) | simp only [decide_eq_false _h] | simp only [(_h : (_ : Bool) = _)] | simp only [decide_eq_true _h] | skip)
        refine hnew fun o' g' e4 => ?_
        have e5 := List.append_inj' (ho1.symm.trans e4) rfl
        have e6 : g = g' := by simpa using e5.2
        rw [← e6]; exact hq
    · repeat' (first | with_reducible refine inw ?_ | simp (maxSteps := 900000) (disch := omega) only [go_sem, Nat.reduceEqDiff, ↓reduceIte, reduceCtorEq, Nat.reduceAdd, Nat.reduceMul, Int.reduceToNat, List.reduceReplicate, Nat.reduceLeDiff, Nat.reduceLT, Int.reduceLT, Int.reduceLE, Int.reduceEq, z2] | (with_reducible apply call (c2)); (focus simp (maxSteps := 900000) (disch := omega) only [go_sem, Nat.reduceEqDiff, ↓reduceIte, reduceCtorEq, Nat.reduceAdd, Nat.reduceMul, Int.reduceToNat, List.reduceReplicate, Nat.reduceLeDiff, Nat.reduceLT, Int.reduceLT, Int.reduceLE, Int.reduceEq, z2] <;> rfl) | with_reducible refine pickB_f ?_ | with_reducible refine giv_intro fun _h => ?_ | with_reducible refine alt_intro ?_ fun _h => ?_ | with_reducible refine pickD_nil ?_ | (with_reducible refine brc (fun _h => ?_) fun _h => ?_) <;> first | (exfalso; omega) | simp only [decide_eq_false _h] | simp only [(_h : (_ : Bool) = _)] | simp only [decide_eq_true _h] | skip)
      exact hnew fun o' g' e4 => absurd (show 0 < out.length by rw [e4]; simp) ho
  · have hi3 : i = rows'.length := by omega
    subst hi3
    rw [List.take_length] at hR
    have hfin : out = insAG (ones rows) := runsG_eq hR (hp.map _) (ones_pos rows)
    subst hfin
    repeat' (first | with_reducible refine inw ?_ | simp (maxSteps := 900000) (disch := omega) only [go_sem, Nat.reduceEqDiff, ↓reduceIte, reduceCtorEq, Nat.reduceAdd, Nat.reduceMul, Int.reduceToNat, List.reduceReplicate, Nat.reduceLeDiff, Nat.reduceLT, Int.reduceLT, Int.reduceLE, Int.reduceEq] | with_reducible refine pickB_f ?_ | with_reducible refine giv_intro fun _h => ?_ | with_reducible refine alt_intro ?_ fun _h => ?_ | with_reducible refine pickD_nil ?_ | (with_reducible refine brc (fun _h => ?_) fun _h => ?_) <;> first | (exfalso; omega) | simp only [decide_eq_false _h] | simp only [(_h : (_ : Bool) = _)] | simp only [decide_eq_true _h] | skip)
    all_goals skip
end Go.Proofs.Ytedbjmonfbpefaa.Ev

/- Two lists of grams put together: the program; the laws TallyGrams, TallyMerges, TallyOrders. -/
import Derived.Test.YtedbjmonfbpefaaZFnGh
import Derived.Test.YtedbjmonfbpefaaZLaySortG
import Derived.Test.YtedbjmonfbpefaaZFnG
set_option linter.unusedVariables false
set_option linter.unusedSimpArgs false
namespace Go.Proofs.Ytedbjmonfbpefaa.Ev
open Go Go.Proofs

abbrev cmpG (x y : Gram) : Int := cmpL x.1 y.1
theorem swo_cmpG : Sort.SWO (ltOf cmpG) := swo_pull swo_cmpL fun g : Gram => g.1
/-- ablaut/tally.Merge$1: 2 parameters, 0 captured -/
def s94 : SC := .seq (.reg [o1 2 (.box 89 2 (.t 0)),
   o1 3 (.box 89 2 (.t 1)),
   o1 4 (.mv (cI 0))])
  (.seq (.reg [o1 5 (.faddr 0 (.t 2)),
    o1 6 (.load none (.t 5)),
    o1 7 (.faddr 0 (.t 3)),
    o1 8 (.load none (.t 7)),
    o1 9 (.call (.f 88) [(.t 6), (.t 8)]),
    o1 4 (.mv (.t 9))])
   (.ret))
theorem s94_ok : lookF Try.prog 94 = some (s94, 10, [.tmp 4]) := by kernel_rfl
theorem merge1_ok (x y : Gram) (hx : x.1.length ≤ 8796093022208) (hy : y.1.length ≤ 8796093022208) : Fn P 94 [gramA x, gramA y] (intA (cmpG x y)) := by
  have c1 := slCompare_ok x.1 y.1 hx hy
  (refine fn_look s94_ok (by simp) (by intro k; simp only [go_sem, Nat.reduceEqDiff, ↓reduceIte, reduceCtorEq, Nat.reduceAdd, Nat.reduceMul, Int.reduceToNat, List.reduceReplicate, Nat.reduceLeDiff, Nat.reduceLT, Int.reduceLT, Int.reduceLE, Int.reduceEq]) fun S hS => cwp_sound _ _ _ _ ?_; simp (maxSteps := 900000) (disch := omega) only [s94, go_sem, Nat.reduceEqDiff, ↓reduceIte, reduceCtorEq, Nat.reduceAdd, Nat.reduceMul, Int.reduceToNat, List.reduceReplicate, Nat.reduceLeDiff, Nat.reduceLT, Int.reduceLT, Int.reduceLE, Int.reduceEq])
  repeat' (first | with_reducible refine inw ?_ | simp (maxSteps := 900000) (disch := omega) only [go_sem, Nat.reduceEqDiff, ↓reduceIte, reduceCtorEq, Nat.reduceAdd, Nat.reduceMul, Int.reduceToNat, List.reduceReplicate, Nat.reduceLeDiff, Nat.reduceLT, Int.reduceLT, Int.reduceLE, Int.reduceEq] | (with_reducible apply call (c1)); (focus simp (maxSteps := 900000) (disch := omega) only [go_sem, Nat.reduceEqDiff, ↓reduceIte, reduceCtorEq, Nat.reduceAdd, Nat.reduceMul, Int.reduceToNat, List.reduceReplicate, Nat.reduceLeDiff, Nat.reduceLT, Int.reduceLT, Int.reduceLE, Int.reduceEq] <;> rfl) | with_reducible refine pickB_f ?_ | with_reducible refine giv_intro fun _h => ?_ | with_reducible refine alt_intro ?_ fun _h => ?_ | with_reducible refine pickD_nil ?_ | (with_reducible refine brc (fun _h => ?_) fun _h => ?_) <;> first | (exfalso; omega) | simp only [decide_eq_false _h] | simp only [(_h : (_ : Bool) = _)] | simp only [decide_eq_true _h] | skip)
/-- ablaut/tally.Merge$2: 1 parameters, 0 captured -/
def s96 : SC := .seq (.reg [o1 1 (.box 89 2 (.t 0)),
   o1 2 (.mv (cB false))])
  (.seq (.reg [o1 3 (.faddr 1 (.t 1)),
    o1 4 (.load none (.t 3)),
    o1 5 (.bin .gtr (.t 4) (cI 1000)),
    o1 2 (.mv (.t 5))])
   (.ret))
theorem s96_ok : lookF Try.prog 96 = some (s96, 6, [.tmp 2]) := by kernel_rfl
theorem merge2_ok (x : Gram) : Fn P 96 [gramA x] (boolA (decide (1000 < x.2))) := by
  (refine fn_look s96_ok (by simp) (by intro k; simp only [go_sem, Nat.reduceEqDiff, ↓reduceIte, reduceCtorEq, Nat.reduceAdd, Nat.reduceMul, Int.reduceToNat, List.reduceReplicate, Nat.reduceLeDiff, Nat.reduceLT, Int.reduceLT, Int.reduceLE, Int.reduceEq]) fun S hS => cwp_sound _ _ _ _ ?_; simp (maxSteps := 900000) (disch := omega) only [s96, go_sem, Nat.reduceEqDiff, ↓reduceIte, reduceCtorEq, Nat.reduceAdd, Nat.reduceMul, Int.reduceToNat, List.reduceReplicate, Nat.reduceLeDiff, Nat.reduceLT, Int.reduceLT, Int.reduceLE, Int.reduceEq])
  repeat' (first | with_reducible refine inw ?_ | simp (maxSteps := 900000) (disch := omega) only [go_sem, Nat.reduceEqDiff, ↓reduceIte, reduceCtorEq, Nat.reduceAdd, Nat.reduceMul, Int.reduceToNat, List.reduceReplicate, Nat.reduceLeDiff, Nat.reduceLT, Int.reduceLT, Int.reduceLE, Int.reduceEq] | with_reducible refine pickB_f ?_ | with_reducible refine giv_intro fun _h => ?_ | with_reducible refine alt_intro ?_ fun _h => ?_ | with_reducible refine pickD_nil ?_ | (with_reducible refine brc (fun _h => ?_) fun _h => ?_) <;> first | (exfalso; omega) | simp only [decide_eq_false _h] | simp only [(_h : (_ : Bool) = _)] | simp only [decide_eq_true _h] | skip)
theorem pairG_le {l : List Gram} (hs : l.Pairwise fun x y => ¬cmpG y x < 0) {i : Nat} (hi : i < l.length) : ∀ y ∈ l.take i, cmpL y.1 (nth l i).1 ≤ 0 := fun y h1 => by
  obtain ⟨j, hj, hje⟩ := List.getElem_of_mem h1
  rw [List.length_take] at hj
  rw [List.getElem_take] at hje
  have := List.pairwise_iff_getElem.1 hs j i (by omega) hi (by omega)
  rw [hje] at this
  rw [nth_eq hi]
  have h2 := cmpL_anti y.1 l[i].1
  simp only [cmpG] at this
  omega
theorem src_two (S : St) (x y : AV) : srcOf S 2 (.ro 1 [x, y]) = some (1, [x, y]) := by simp [srcOf]
/-- ablaut/tally.Merge: 2 parameters, 0 captured -/
def s40 : SC := .seq (.reg [o1 4 (.mv (.c (.slice none 0 0))),
   o1 5 (.mv (cI 0))])
  (.seq (.seq (.reg [o1 14 (.mv (.t 0)),
     o1 15 (.mv (.t 1)),
     o1 16 (.buildSl 44 1 2 [(.slice none 0 0)] [(0, 1, (.t 14)), (1, 1, (.t 15))]),
     o1 17 (.lenL (.t 16)),
     o1 18 (.mv (cI 0))])
    (.block 0 (.loop (.seq (.reg [o1 19 (.bin .lss (.t 18) (.t 17))])
       (.seq (.cond (.t 19) (.skip) (.exit 0))
        (.seq (.block 1 (.seq (.reg [o1 20 (.iaddr 1 (.t 16) (.t 18)),
            o1 21 (.load none (.t 20)),
            o1 7 (.mv (.t 21))])
           (.seq (.reg [o1 22 (.mv (.t 7)),
             o1 23 (.call (.f 68) [(.t 22)]),
             o1 8 (.mv (.t 23))])
            (.seq (.reg [o1 24 (.mv (.t 8)),
              o1 25 (.bin .neq (.t 24) (cI 0))])
             (.cond (.t 25) (.seq (.reg [o1 26 (.mv (.t 8)),
                o1 4 (.mv (.c (.slice none 0 0))),
                o1 5 (.mv (.t 26))])
               (.ret)) (.skip))))))
         (.reg [o1 27 (.bin .add (.t 18) (cI 1)),
          o1 18 (.mv (.t 27))])))))))
   (.seq (.seq (.regD [o1 28 (.mv (.t 0)),
      o1 29 (.lenL (.t 28)),
      o1 30 (.bin .gtr (.t 29) (cI 0)),
      o1 31 (.mv (.t 30)),
      oT 32 (.mv (.t 1)) 31,
      oT 33 (.lenL (.t 32)) 31,
      oT 34 (.bin .gtr (.t 33) (cI 0)) 31,
      o1 35 (.pick (.t 31) (.t 34) (cB false)),
      o1 36 (.mv (.t 35)),
      oT 37 (.mv (.t 0)) 36,
      oT 38 (.iaddr 2 (.t 37) (cI 0)) 36,
      oT 39 (.faddr 0 (.t 38)) 36,
      oT 40 (.load none (.t 39)) 36,
      oT 41 (.lenL (.t 40)) 36,
      oT 42 (.mv (.t 1)) 36,
      oT 43 (.iaddr 2 (.t 42) (cI 0)) 36,
      oT 44 (.faddr 0 (.t 43)) 36,
      oT 45 (.load none (.t 44)) 36,
      oT 46 (.lenL (.t 45)) 36,
      oT 47 (.bin .neq (.t 41) (.t 46)) 36,
      o1 48 (.pick (.t 36) (.t 47) (cB false))])
     (.cond (.t 48) (.seq (.reg [o1 4 (.mv (.c (.slice none 0 0))),
        o1 5 (.mv (cI 10))])
       (.ret)) (.skip)))
    (.seq (.reg [o1 49 (.mv (.t 0)),
      o1 50 (.mv (.t 1)),
      o1 51 (.buildSl 44 1 2 [(.slice none 0 0)] [(0, 1, (.t 49)), (1, 1, (.t 50))]),
      o1 52 (.call (.f 92) [(.t 51)]),
      o1 9 (.mv (.t 52))])
     (.seq (.reg [o1 53 (.mv (.t 9)),
       o1 54 (.call (.f 93) [(.t 53), (.f 94)])])
      (.seq (.reg [o1 10 (.mv (.c (.slice none 0 0)))])
       (.seq (.seq (.reg [o1 55 (.mv (.t 9)),
          o1 56 (.lenL (.t 55)),
          o1 57 (.mv (cI 0))])
         (.block 2 (.loop (.seq (.reg [o1 58 (.bin .lss (.t 57) (.t 56))])
            (.seq (.cond (.t 58) (.skip) (.exit 2))
             (.seq (.block 3 (.seq (.reg [o1 59 (.iaddr 2 (.t 55) (.t 57)),
                 o1 60 (.load (some 2) (.t 59)),
                 o1 12 (.alloc 89 2 [(.slice none 0 0), (.int .i64 0)]),
                 o0 (.store 2 (.t 12) (.t 60))])
                (.seq (.seq (.reg [o1 61 (.mv (.t 10)),
                   o1 62 (.lenL (.t 61)),
                   o1 13 (.mv (.t 62))])
                  (.seq (.regC [o1 63 (.mv (.t 13)),
                    o1 64 (.bin .gtr (.t 63) (cI 0)),
                    o1 65 (.mv (.t 64)),
                    oT 66 (.mv (.t 10)) 65,
                    oT 67 (.mv (.t 13)) 65,
                    oT 68 (.bin .sub (.t 67) (cI 1)) 65,
                    oT 69 (.iaddr 2 (.t 66) (.t 68)) 65,
                    oT 70 (.faddr 0 (.t 69)) 65,
                    oT 71 (.load none (.t 70)) 65,
                    oT 72 (.faddr 0 (.t 12)) 65,
                    oT 73 (.load none (.t 72)) 65,
                    oT 74 (.call (.f 69) [(.t 71), (.t 73)]) 65,
                    o1 75 (.pick (.t 65) (.t 74) (cB false))])
                   (.cond (.t 75) (.seq (.regE [o1 76 (.mv (.t 10)),
                      o1 77 (.mv (.t 13)),
                      o1 78 (.bin .sub (.t 77) (cI 1)),
                      o1 79 (.iaddr 2 (.t 76) (.t 78)),
                      o1 80 (.faddr 1 (.t 79)),
                      o1 81 (.load none (.t 80)),
                      o1 82 (.faddr 1 (.t 12)),
                      o1 83 (.load none (.t 82)),
                      o1 84 (.bin .add (.t 81) (.t 83)),
                      o1 85 (.iaddr 2 (.t 76) (.t 78)),
                      o1 86 (.faddr 1 (.t 85)),
                      o0 (.store 1 (.t 86) (.t 84))])
                     (.exit 3)) (.skip))))
                 (.regE [o1 87 (.mv (.t 10)),
                  o1 88 (.faddr 0 (.t 12)),
                  o1 89 (.load none (.t 88)),
                  o1 90 (.call (.f 89) [(.t 89)]),
                  o1 91 (.faddr 1 (.t 12)),
                  o1 92 (.load none (.t 91)),
                  o1 93 (.build [(.slice none 0 0), (.int .i64 0)] [(0, 1, (.t 90)), (1, 1, (.t 92))]),
                  o1 94 (.buildSl 89 2 1 [(.slice none 0 0), (.int .i64 0)] [(0, 2, (.t 93))]),
                  o1 95 (.app 89 2 32 (.t 87) (.t 94)),
                  o1 10 (.mv (.t 95))]))))
              (.reg [o1 96 (.bin .add (.t 57) (cI 1)),
               o1 57 (.mv (.t 96))])))))))
        (.seq (.seq (.reg [o1 97 (.mv (.t 10)),
           o1 98 (.lenL (.t 97)),
           o1 99 (.bin .gtr (.t 98) (cI 200)),
           o1 100 (.mv (.t 99)),
           oF 101 (.mv (.t 10)) 100,
           oF 102 (.call (.f 95) [(.t 101), (.f 96)]) 100,
           o1 103 (.pick (.t 100) (cB true) (.t 102))])
          (.cond (.t 103) (.seq (.reg [o1 4 (.mv (.c (.slice none 0 0))),
             o1 5 (.mv (cI 3))])
            (.ret)) (.skip)))
         (.seq (.reg [o1 104 (.mv (.t 10)),
           o1 4 (.mv (.t 104)),
           o1 5 (.mv (cI 0))])
          (.ret)))))))))
theorem s40_ok : lookF Try.prog 40 = some (s40, 105, [.tmp 4, .tmp 5]) := by kernel_rfl
set_option maxRecDepth 10000 in
set_option maxHeartbeats 1000000 in
theorem tMerge_ok (a b : List Gram) (ha : ∀ g ∈ a, g.1.length ≤ 8796093022208) (hb : ∀ g ∈ b, g.1.length ≤ 8796093022208) : Fn P 40 [sl a, sl b] (.tup [sl (mergeT a b).1, intA (mergeT a b).2]) := by
  have c1 := tGramsF_ok a ha
  have c2 := tGramsF_ok b hb
  have eab : nth [a, b] 0 = a := rfl
  have ebb : nth [a, b] 1 = b := rfl
  (refine fn_look s40_ok (by simp) (by intro k; simp only [go_sem, Nat.reduceEqDiff, ↓reduceIte, reduceCtorEq, Nat.reduceAdd, Nat.reduceMul, Int.reduceToNat, List.reduceReplicate, Nat.reduceLeDiff, Nat.reduceLT, Int.reduceLT, Int.reduceLE, Int.reduceEq]) fun S hS => cwp_sound _ _ _ _ ?_; simp (maxSteps := 900000) (disch := omega) only [s40, go_sem, Nat.reduceEqDiff, ↓reduceIte, reduceCtorEq, Nat.reduceAdd, Nat.reduceMul, Int.reduceToNat, List.reduceReplicate, Nat.reduceLeDiff, Nat.reduceLT, Int.reduceLT, Int.reduceLE, Int.reduceEq])
  repeat' (first | with_reducible refine inw ?_ | simp (maxSteps := 900000) (disch := omega) only [go_sem, Nat.reduceEqDiff, ↓reduceIte, reduceCtorEq, Nat.reduceAdd, Nat.reduceMul, Int.reduceToNat, List.reduceReplicate, Nat.reduceLeDiff, Nat.reduceLT, Int.reduceLT, Int.reduceLE, Int.reduceEq] | with_reducible refine pickB_f ?_ | with_reducible refine giv_intro fun _h => ?_ | with_reducible refine alt_intro ?_ fun _h => ?_ | with_reducible refine pickD_nil ?_ | (with_reducible refine brc (fun _h => ?_) fun _h => ?_) <;> first | (exfalso; omega) | simp only [decide_eq_false _h] | simp only [(_h : (_ : Bool) = _)] | simp only [decide_eq_true _h] | skip)
  (refine loopC hS [0, 1, 16, 17] (by simp only [go_sem, Nat.reduceEqDiff, ↓reduceIte, reduceCtorEq, Nat.reduceAdd, Nat.reduceMul, Int.reduceToNat, List.reduceReplicate, Nat.reduceLeDiff, Nat.reduceLT, Int.reduceLT, Int.reduceLE, Int.reduceEq]; try rfl) (fun (i : Nat) => [(18, intA i)]) (fun (i : Nat) => [rowO 44 [a, b]]) (fun (i : Nat) => i ≤ 2 ∧ (1 ≤ i → givenF a = 0) ∧ (2 ≤ i → givenF b = 0)) (fun (i : Nat) => 2 - i) (0) ?_ (by intro s; first | rfl | (rcases s with ⟨_, _⟩; rfl) | (rcases s with ⟨_, _, _⟩; rfl) | (rcases s with ⟨_, _, _, _⟩; rfl) | (rcases s with ⟨_, _, _, _, _⟩; rfl)) ?_)
  · simp (maxSteps := 900000) (disch := omega) only [go_sem, Nat.reduceEqDiff, ↓reduceIte, reduceCtorEq, Nat.reduceAdd, Nat.reduceMul, Int.reduceToNat, List.reduceReplicate, Nat.reduceLeDiff, Nat.reduceLT, Int.reduceLT, Int.reduceLE, Int.reduceEq]
    skip
  rintro i ⟨hi, hA, hB⟩
  replace hi : i ≤ 2 := hi
  replace hA : 1 ≤ i → givenF a = 0 := hA
  replace hB : 2 ≤ i → givenF b = 0 := hB
  rcases (show i = 0 ∨ i = 1 ∨ i = 2 by omega) with rfl | rfl | rfl
  · by_cases hga : givenF a = 0
    · rw [hga] at c1
      repeat' (first | with_reducible refine inw ?_ | simp (maxSteps := 900000) (disch := omega) only [go_sem, Nat.reduceEqDiff, ↓reduceIte, reduceCtorEq, Nat.reduceAdd, Nat.reduceMul, Int.reduceToNat, List.reduceReplicate, Nat.reduceLeDiff, Nat.reduceLT, Int.reduceLT, Int.reduceLE, Int.reduceEq, eab] | (with_reducible apply call (c1)); (focus simp (maxSteps := 900000) (disch := omega) only [go_sem, Nat.reduceEqDiff, ↓reduceIte, reduceCtorEq, Nat.reduceAdd, Nat.reduceMul, Int.reduceToNat, List.reduceReplicate, Nat.reduceLeDiff, Nat.reduceLT, Int.reduceLT, Int.reduceLE, Int.reduceEq, eab] <;> rfl) | with_reducible refine pickB_f ?_ | with_reducible refine giv_intro fun _h => ?_ | with_reducible refine alt_intro ?_ fun _h => ?_ | with_reducible refine pickD_nil ?_ | (with_reducible refine brc (fun _h => ?_) fun _h => ?_) <;> first | (exfalso; omega) | simp only [decide_eq_false _h] | simp only [(_h : (_ : Bool) = _)] | simp only [decide_eq_true _h] | skip)
      exact ⟨1, ⟨by omega, by omega, fun _ => hga, fun h => by omega⟩, rfl⟩
    · have e1 : mergeT a b = ([], givenF a) := by
        have : bothF a b = givenF a := by rw [bothF, if_pos hga]
        rw [mergeT, this, if_pos hga]
      rw [e1]
      repeat' (first | with_reducible refine inw ?_ | simp (maxSteps := 900000) (disch := omega) only [go_sem, Nat.reduceEqDiff, ↓reduceIte, reduceCtorEq, Nat.reduceAdd, Nat.reduceMul, Int.reduceToNat, List.reduceReplicate, Nat.reduceLeDiff, Nat.reduceLT, Int.reduceLT, Int.reduceLE, Int.reduceEq, eab] | (with_reducible apply call (c1)); (focus simp (maxSteps := 900000) (disch := omega) only [go_sem, Nat.reduceEqDiff, ↓reduceIte, reduceCtorEq, Nat.reduceAdd, Nat.reduceMul, Int.reduceToNat, List.reduceReplicate, Nat.reduceLeDiff, Nat.reduceLT, Int.reduceLT, Int.reduceLE, Int.reduceEq, eab] <;> rfl) | with_reducible refine pickB_f ?_ | with_reducible refine giv_intro fun _h => ?_ | with_reducible refine alt_intro ?_ fun _h => ?_ | with_reducible refine pickD_nil ?_ | (with_reducible refine brc (fun _h => ?_) fun _h => ?_) <;> first | (exfalso; omega) | simp only [decide_eq_false _h] | simp only [(_h : (_ : Bool) = _)] | simp only [decide_eq_true _h] | skip)
      rfl
  · replace hA := hA (by omega)
    by_cases hgb : givenF b = 0
    · rw [hgb] at c2
      repeat' (first | with_reducible refine inw ?_ | simp (maxSteps := 900000) (disch := omega) only [go_sem, Nat.reduceEqDiff, ↓reduceIte, reduceCtorEq, Nat.reduceAdd, Nat.reduceMul, Int.reduceToNat, List.reduceReplicate, Nat.reduceLeDiff, Nat.reduceLT, Int.reduceLT, Int.reduceLE, Int.reduceEq, ebb] | (with_reducible apply call (c2)); (focus simp (maxSteps := 900000) (disch := omega) only [go_sem, Nat.reduceEqDiff, ↓reduceIte, reduceCtorEq, Nat.reduceAdd, Nat.reduceMul, Int.reduceToNat, List.reduceReplicate, Nat.reduceLeDiff, Nat.reduceLT, Int.reduceLT, Int.reduceLE, Int.reduceEq, ebb] <;> rfl) | with_reducible refine pickB_f ?_ | with_reducible refine giv_intro fun _h => ?_ | with_reducible refine alt_intro ?_ fun _h => ?_ | with_reducible refine pickD_nil ?_ | (with_reducible refine brc (fun _h => ?_) fun _h => ?_) <;> first | (exfalso; omega) | simp only [decide_eq_false _h] | simp only [(_h : (_ : Bool) = _)] | simp only [decide_eq_true _h] | skip)
      exact ⟨2, ⟨by omega, by omega, fun _ => hA, fun _ => hgb⟩, rfl⟩
    · have e1 : mergeT a b = ([], givenF b) := by
        have : bothF a b = givenF b := by rw [bothF, if_neg (by omega)]
        rw [mergeT, this, if_pos hgb]
      rw [e1]
      repeat' (first | with_reducible refine inw ?_ | simp (maxSteps := 900000) (disch := omega) only [go_sem, Nat.reduceEqDiff, ↓reduceIte, reduceCtorEq, Nat.reduceAdd, Nat.reduceMul, Int.reduceToNat, List.reduceReplicate, Nat.reduceLeDiff, Nat.reduceLT, Int.reduceLT, Int.reduceLE, Int.reduceEq, ebb] | (with_reducible apply call (c2)); (focus simp (maxSteps := 900000) (disch := omega) only [go_sem, Nat.reduceEqDiff, ↓reduceIte, reduceCtorEq, Nat.reduceAdd, Nat.reduceMul, Int.reduceToNat, List.reduceReplicate, Nat.reduceLeDiff, Nat.reduceLT, Int.reduceLT, Int.reduceLE, Int.reduceEq, ebb] <;> rfl) | with_reducible refine pickB_f ?_ | with_reducible refine giv_intro fun _h => ?_ | with_reducible refine alt_intro ?_ fun _h => ?_ | with_reducible refine pickD_nil ?_ | (with_reducible refine brc (fun _h => ?_) fun _h => ?_) <;> first | (exfalso; omega) | simp only [decide_eq_false _h] | simp only [(_h : (_ : Bool) = _)] | simp only [decide_eq_true _h] | skip)
      rfl
  replace hA := hA (by omega)
  replace hB := hB (by omega)
  have wa := good_words (good_of hA)
  have wb := good_words (good_of hB)
  have la := (good_of hA).len
  have lb := (good_of hB).len
  have ea := fun h => head2 (l := a) h
  have eb := fun h => head2 (l := b) h
  have h1 : ¬bothF a b ≠ 0 := fun h => h (bothF_zero.2 ⟨hA, hB⟩)
  by_cases h2 : fitG a b
  · rw [mergeT, if_neg h1, if_pos h2]
    obtain ⟨q1, q2, q3⟩ := h2
    replace ea := ea q1
    replace eb := eb q2
    repeat' (first | with_reducible refine inw ?_ | simp (maxSteps := 900000) (disch := omega) only [go_sem, Nat.reduceEqDiff, ↓reduceIte, reduceCtorEq, Nat.reduceAdd, Nat.reduceMul, Int.reduceToNat, List.reduceReplicate, Nat.reduceLeDiff, Nat.reduceLT, Int.reduceLT, Int.reduceLE, Int.reduceEq, ea, eb] | with_reducible refine pickB_f ?_ | with_reducible refine giv_intro fun _h => ?_ | with_reducible refine alt_intro ?_ fun _h => ?_ | with_reducible refine pickD_nil ?_ | (with_reducible refine brc (fun _h => ?_) fun _h => ?_) <;> first | (exfalso; omega) | simp only [decide_eq_false _h] | simp only [(_h : (_ : Bool) = _)] | simp only [decide_eq_true _h] | skip)
    rfl
  have hw : ∀ g ∈ a ++ b, 1 ≤ g.1.length ∧ g.1.length ≤ 4 ∧ 0 < g.2 ∧ g.2 ≤ 1000 := fun g hg => (List.mem_append.1 hg).elim (wa g) (wb g)
  have eR : mergeT a b = if largeG (insAG (a ++ b)) = true then ([], 3) else (insAG (a ++ b), 0) := by rw [mergeT, if_neg h1, if_neg h2]
  rw [eR]
  have efl : [a, b].flatten = a ++ b := by simp
  have hln : (a ++ b).length ≤ 400 := by rw [List.length_append]; omega
  by_cases h3 : 0 < a.length ∧ 0 < b.length
  case' pos =>
    have heq : (nth a 0).1.length = (nth b 0).1.length := by
      rcases Nat.lt_trichotomy (nth a 0).1.length (nth b 0).1.length with h | h | h
      · exact absurd ⟨h3.1, h3.2, by omega⟩ h2
      · exact h
      · exact absurd ⟨h3.1, h3.2, by omega⟩ h2
    replace ea := ea h3.1
    replace eb := eb h3.2
    repeat' (first | with_reducible refine inw ?_ | simp (maxSteps := 900000) (disch := omega) only [go_sem, Nat.reduceEqDiff, ↓reduceIte, reduceCtorEq, Nat.reduceAdd, Nat.reduceMul, Int.reduceToNat, List.reduceReplicate, Nat.reduceLeDiff, Nat.reduceLT, Int.reduceLT, Int.reduceLE, Int.reduceEq, ea, eb] | with_reducible refine pickB_f ?_ | with_reducible refine giv_intro fun _h => ?_ | with_reducible refine alt_intro ?_ fun _h => ?_ | with_reducible refine pickD_nil ?_ | (with_reducible refine brc (fun _h => ?_) fun _h => ?_) <;> first | (exfalso; omega) | simp only [decide_eq_false _h] | simp only [(_h : (_ : Bool) = _)] | simp only [decide_eq_true _h] | skip)
  case' neg =>
    repeat' (first | with_reducible refine inw ?_ | simp (maxSteps := 900000) (disch := omega) only [go_sem, Nat.reduceEqDiff, ↓reduceIte, reduceCtorEq, Nat.reduceAdd, Nat.reduceMul, Int.reduceToNat, List.reduceReplicate, Nat.reduceLeDiff, Nat.reduceLT, Int.reduceLT, Int.reduceLE, Int.reduceEq] | with_reducible refine pickB_f ?_ | with_reducible refine giv_intro fun _h => ?_ | with_reducible refine alt_intro ?_ fun _h => ?_ | with_reducible refine pickD_nil ?_ | (with_reducible refine brc (fun _h => ?_) fun _h => ?_) <;> first | (exfalso; omega) | simp only [decide_eq_false _h] | simp only [(_h : (_ : Bool) = _)] | simp only [decide_eq_true _h] | skip)
  all_goals
    by_cases h0 : (a ++ b).length = 0
    case' pos =>
      refine callN_give (concatG_nil [a, b] (by simp) (by rw [efl]; exact h0)) (by simp (maxSteps := 900000) (disch := omega) only [go_sem, Nat.reduceEqDiff, ↓reduceIte, reduceCtorEq, Nat.reduceAdd, Nat.reduceMul, Int.reduceToNat, List.reduceReplicate, Nat.reduceLeDiff, Nat.reduceLT, Int.reduceLT, Int.reduceLE, Int.reduceEq]; rfl) ?_
      rintro L' r ⟨rfl, rfl⟩
      simp only [List.map_cons, List.map_nil, List.append_nil]
      repeat' (first | with_reducible refine inw ?_ | simp (maxSteps := 900000) (disch := omega) only [go_sem, Nat.reduceEqDiff, ↓reduceIte, reduceCtorEq, Nat.reduceAdd, Nat.reduceMul, Int.reduceToNat, List.reduceReplicate, Nat.reduceLeDiff, Nat.reduceLT, Int.reduceLT, Int.reduceLE, Int.reduceEq] | with_reducible refine pickB_f ?_ | with_reducible refine giv_intro fun _h => ?_ | with_reducible refine alt_intro ?_ fun _h => ?_ | with_reducible refine pickD_nil ?_ | (with_reducible refine brc (fun _h => ?_) fun _h => ?_) <;> first | (exfalso; omega) | simp only [decide_eq_false _h] | simp only [(_h : (_ : Bool) = _)] | simp only [decide_eq_true _h] | skip)
      refine sortNil_call (ρ := sortG_ren) sortG ⟨_, Try.func93, by kernel_rfl, by kernel_rfl⟩ ?_
      repeat' (first | with_reducible refine inw ?_ | simp (maxSteps := 900000) (disch := omega) only [go_sem, Nat.reduceEqDiff, ↓reduceIte, reduceCtorEq, Nat.reduceAdd, Nat.reduceMul, Int.reduceToNat, List.reduceReplicate, Nat.reduceLeDiff, Nat.reduceLT, Int.reduceLT, Int.reduceLE, Int.reduceEq] | with_reducible refine pickB_f ?_ | with_reducible refine giv_intro fun _h => ?_ | with_reducible refine alt_intro ?_ fun _h => ?_ | with_reducible refine pickD_nil ?_ | (with_reducible refine brc (fun _h => ?_) fun _h => ?_) <;> first | (exfalso; omega) | simp only [decide_eq_false _h] | simp only [(_h : (_ : Bool) = _)] | simp only [decide_eq_true _h] | skip)
      (refine loopC hS [55, 56] (by simp only [go_sem, Nat.reduceEqDiff, ↓reduceIte, reduceCtorEq, Nat.reduceAdd, Nat.reduceMul, Int.reduceToNat, List.reduceReplicate, Nat.reduceLeDiff, Nat.reduceLT, Int.reduceLT, Int.reduceLE, Int.reduceEq]; try rfl) (fun (i : Nat) => [(57, intA i), (10, nilA)]) (fun (i : Nat) => [none, none]) (fun (i : Nat) => i = 0) (fun (i : Nat) => 0) (0) ?_ (by intro s; first | rfl | (rcases s with ⟨_, _⟩; rfl) | (rcases s with ⟨_, _, _⟩; rfl) | (rcases s with ⟨_, _, _, _⟩; rfl) | (rcases s with ⟨_, _, _, _, _⟩; rfl)) ?_)
      · simp (maxSteps := 900000) (disch := omega) only [go_sem, Nat.reduceEqDiff, ↓reduceIte, reduceCtorEq, Nat.reduceAdd, Nat.reduceMul, Int.reduceToNat, List.reduceReplicate, Nat.reduceLeDiff, Nat.reduceLT, Int.reduceLT, Int.reduceLE, Int.reduceEq]
      rintro i rfl
      have c5 := containsFuncG_ok (fun g => decide (1000 < g.2)) 96 [] (fun g _ => merge2_ok g) (by simp)
      rw [List.any_nil] at c5
      have e0 : largeG (insAG (a ++ b)) = false := by rw [List.eq_nil_of_length_eq_zero h0]; rfl
      rw [e0, List.eq_nil_of_length_eq_zero h0]
      repeat' (first | with_reducible refine inw ?_ | simp (maxSteps := 900000) (disch := omega) only [go_sem, Nat.reduceEqDiff, ↓reduceIte, reduceCtorEq, Nat.reduceAdd, Nat.reduceMul, Int.reduceToNat, List.reduceReplicate, Nat.reduceLeDiff, Nat.reduceLT, Int.reduceLT, Int.reduceLE, Int.reduceEq] | (with_reducible apply call (c5)); (focus simp (maxSteps := 900000) (disch := omega) only [go_sem, Nat.reduceEqDiff, ↓reduceIte, reduceCtorEq, Nat.reduceAdd, Nat.reduceMul, Int.reduceToNat, List.reduceReplicate, Nat.reduceLeDiff, Nat.reduceLT, Int.reduceLT, Int.reduceLE, Int.reduceEq] <;> rfl) | with_reducible refine pickB_f ?_ | with_reducible refine giv_intro fun _h => ?_ | with_reducible refine alt_intro ?_ fun _h => ?_ | with_reducible refine pickD_nil ?_ | (with_reducible refine brc (fun _h => ?_) fun _h => ?_) <;> first | (exfalso; omega) | simp only [decide_eq_false _h] | simp only [(_h : (_ : Bool) = _)] | simp only [decide_eq_true _h] | skip)
      all_goals rfl
    case' neg =>
      refine callN_give (concatG_ok [a, b] (by simp) (by rw [efl]; omega) (by rw [efl]; omega)) (by simp (maxSteps := 900000) (disch := omega) only [go_sem, Nat.reduceEqDiff, ↓reduceIte, reduceCtorEq, Nat.reduceAdd, Nat.reduceMul, Int.reduceToNat, List.reduceReplicate, Nat.reduceLeDiff, Nat.reduceLT, Int.reduceLT, Int.reduceLE, Int.reduceEq]; rfl) ?_
      rintro L' r ⟨rfl, rfl⟩
      simp only [own, List.map_cons, List.map_nil, efl, List.cons_append, List.nil_append, nm_stk, List.length_cons, List.length_nil, Nat.zero_add, Nat.add_zero, Nat.reduceAdd]
      generalize hall : a ++ b = all at *
      repeat' (first | with_reducible refine inw ?_ | simp (maxSteps := 900000) (disch := omega) only [go_sem, Nat.reduceEqDiff, ↓reduceIte, reduceCtorEq, Nat.reduceAdd, Nat.reduceMul, Int.reduceToNat, List.reduceReplicate, Nat.reduceLeDiff, Nat.reduceLT, Int.reduceLT, Int.reduceLE, Int.reduceEq] | with_reducible refine pickB_f ?_ | with_reducible refine giv_intro fun _h => ?_ | with_reducible refine alt_intro ?_ fun _h => ?_ | with_reducible refine pickD_nil ?_ | (with_reducible refine brc (fun _h => ?_) fun _h => ?_) <;> first | (exfalso; omega) | simp only [decide_eq_false _h] | simp only [(_h : (_ : Bool) = _)] | simp only [decide_eq_true _h] | skip)
      refine sortK_call (ρ := sortG_ren) (e := 89) (by decide) sortG (fun w => by kernel_rfl) (fun w => by kernel_rfl) ⟨_, Try.func93, by kernel_rfl, by kernel_rfl⟩ cmpG swo_cmpG (by simp) all (by simp (maxSteps := 900000) (disch := omega) only [go_sem, Nat.reduceEqDiff, ↓reduceIte, reduceCtorEq, Nat.reduceAdd, Nat.reduceMul, Int.reduceToNat, List.reduceReplicate, Nat.reduceLeDiff, Nat.reduceLT, Int.reduceLT, Int.reduceLE, Int.reduceEq]) rfl (fun x hx y hy => merge1_ok x y (by have := hw x hx; omega) (by have := hw y hy; omega)) (fun all' hp hs => ?_)
      have hpl : all'.length = all.length := hp.length_eq
      simp only [List.set_cons_zero, List.set_cons_succ, ← hpl]
      repeat' (first | with_reducible refine inw ?_ | simp (maxSteps := 900000) (disch := omega) only [go_sem, Nat.reduceEqDiff, ↓reduceIte, reduceCtorEq, Nat.reduceAdd, Nat.reduceMul, Int.reduceToNat, List.reduceReplicate, Nat.reduceLeDiff, Nat.reduceLT, Int.reduceLT, Int.reduceLE, Int.reduceEq] | with_reducible refine pickB_f ?_ | with_reducible refine giv_intro fun _h => ?_ | with_reducible refine alt_intro ?_ fun _h => ?_ | with_reducible refine pickD_nil ?_ | (with_reducible refine brc (fun _h => ?_) fun _h => ?_) <;> first | (exfalso; omega) | simp only [decide_eq_false _h] | simp only [(_h : (_ : Bool) = _)] | simp only [decide_eq_true _h] | skip)
      refine nil_row 10 89 2 (by simp (maxSteps := 900000) (disch := omega) only [go_sem, Nat.reduceEqDiff, ↓reduceIte, reduceCtorEq, Nat.reduceAdd, Nat.reduceMul, Int.reduceToNat, List.reduceReplicate, Nat.reduceLeDiff, Nat.reduceLT, Int.reduceLT, Int.reduceLE, Int.reduceEq]) ?_
      (refine loopC hS [55, 56] (by simp only [go_sem, Nat.reduceEqDiff, ↓reduceIte, reduceCtorEq, Nat.reduceAdd, Nat.reduceMul, Int.reduceToNat, List.reduceReplicate, Nat.reduceLeDiff, Nat.reduceLT, Int.reduceLT, Int.reduceLE, Int.reduceEq]; try rfl) (fun (⟨i, out⟩ : Nat × List Gram) => [(10, own S 3 out), (57, intA i)]) (fun (⟨i, out⟩ : Nat × List Gram) => [none, none, rowO 89 all', rowO 89 out]) (fun (⟨i, out⟩ : Nat × List Gram) => i ≤ all'.length ∧ RunsG (all'.take i) out) (fun (⟨i, out⟩ : Nat × List Gram) => all'.length - i) ((0, [])) ?_ (by intro s; first | rfl | (rcases s with ⟨_, _⟩; rfl) | (rcases s with ⟨_, _, _⟩; rfl) | (rcases s with ⟨_, _, _, _⟩; rfl) | (rcases s with ⟨_, _, _, _, _⟩; rfl)) ?_)
      · simp (maxSteps := 900000) (disch := omega) only [go_sem, Nat.reduceEqDiff, ↓reduceIte, reduceCtorEq, Nat.reduceAdd, Nat.reduceMul, Int.reduceToNat, List.reduceReplicate, Nat.reduceLeDiff, Nat.reduceLT, Int.reduceLT, Int.reduceLE, Int.reduceEq]
        exact ⟨Nat.zero_le _, runsG_nil⟩
      rintro ⟨i, out⟩ ⟨hi2, hR⟩
      replace hi2 : i ≤ all'.length := hi2
      replace hR : RunsG (all'.take i) out := hR
      by_cases hir : i < all'.length
      · have hst : all'.take (i + 1) = all'.take i ++ [nth all' i] := by rw [List.take_add_one, nth_get? hir]; rfl
        have hro2 : (all'.take i).length = i := by rw [List.length_take]; omega
        have hol := hR.len
        have wx := hw _ (hp.mem_iff.1 (nth_mem hir))
        have hle := runsG_le hR (M := 1000) fun g hg => by have := hw g (hp.mem_iff.1 (List.mem_of_mem_take hg)); omega
        have z2 : zcells [Value.slice none 0 0, Value.int IntKind.i64 0] 2 = [.sc (.slice none 0 0), intA 0] := rfl
        have hnew : (∀ o g, out = o ++ [g] → g.1 ≠ (nth all' i).1) → ∃ s' : Nat × List Gram, (all'.length - s'.1 < all'.length - i ∧ s'.1 ≤ all'.length ∧ RunsG (all'.take s'.1) s'.2) ∧
            (((out.length + 1) * 2 = s'.2.length * 2 ∧ out.length + 1 = s'.2.length) ∧ (i : Int) + 1 = s'.1) ∧ cellsL out ++ [AV.ro (nth all' i).1.length (cellsL (nth all' i).1), AV.sc (Value.int IntKind.i64 (nth all' i).2)] = cellsL s'.2 := fun hne => by
          have hR2 := runsG_new (x := nth all' i) hR wx.2.2.1 (pairG_le hs hir) hne
          rw [← hst] at hR2
          have h5 : (out ++ [nth all' i]).length = out.length + 1 := by rw [List.length_append, List.length_singleton]
          exact ⟨(i + 1, out ++ [nth all' i]), ⟨by show all'.length - (i + 1) < _; omega, by show i + 1 ≤ _; omega, hR2⟩, ⟨⟨by rw [h5], h5.symm⟩, by show (i : Int) + 1 = ((i + 1 : Nat) : Int); omega⟩, by show cellsL out ++ cellsL [nth all' i] = _; rw [cellsL_app]⟩
        have c3 := cloneW_ok (nth all' i).1 (by omega)
        have eC : ((cellsL all').drop (i * 2)).take 2 = [sl (nth all' i).1, intA (nth all' i).2] := by rw [cellsL_drop, nth_drop hir]; rfl
        by_cases ho : 0 < out.length
        · obtain ⟨o, g, ho1, ho2, ho3⟩ := last_of ho
          have hgm : g ∈ out := by rw [ho1]; simp
          have hgb := hle g hgm
          have hgl : g.1.length ≤ 4 := by
            obtain ⟨x, hx, e⟩ := hR.mem g hgm
            have := hw _ (hp.mem_iff.1 (List.mem_of_mem_take hx))
            rw [← e]; omega
          have c4 := slEqual_ok g.1 (nth all' i).1 (by omega) (by omega)
          have e0 := cells2_0 (show out.length - 1 < out.length by omega)
          have e1 := cells2_1 (show out.length - 1 < out.length by omega)
          have e2 := put2_1 (show out.length - 1 < out.length by omega)
          rw [ho3] at e0 e1 e2
          have e3 : ((out.length : Int) - 1).toNat = out.length - 1 := by omega
          by_cases hq : g.1 = (nth all' i).1
          · rw [decide_eq_true hq] at c4
            repeat' (first | with_reducible refine inw ?_ | simp (maxSteps := 900000) (disch := omega) only [go_sem, Nat.reduceEqDiff, ↓reduceIte, reduceCtorEq, Nat.reduceAdd, Nat.reduceMul, Int.reduceToNat, List.reduceReplicate, Nat.reduceLeDiff, Nat.reduceLT, Int.reduceLT, Int.reduceLE, Int.reduceEq, e0, e1, e2, e3, z2, eC, src_two] | (with_reducible apply call_D (c3)); (focus simp (maxSteps := 900000) (disch := omega) only [go_sem, Nat.reduceEqDiff, ↓reduceIte, reduceCtorEq, Nat.reduceAdd, Nat.reduceMul, Int.reduceToNat, List.reduceReplicate, Nat.reduceLeDiff, Nat.reduceLT, Int.reduceLT, Int.reduceLE, Int.reduceEq, e0, e1, e2, e3, z2, eC, src_two] <;> rfl) | (with_reducible apply call_D (c4)); (focus simp (maxSteps := 900000) (disch := omega) only [go_sem, Nat.reduceEqDiff, ↓reduceIte, reduceCtorEq, Nat.reduceAdd, Nat.reduceMul, Int.reduceToNat, List.reduceReplicate, Nat.reduceLeDiff, Nat.reduceLT, Int.reduceLT, Int.reduceLE, Int.reduceEq, e0, e1, e2, e3, z2, eC, src_two] <;> rfl) | with_reducible refine pickB_f ?_ | with_reducible refine giv_intro fun _h => ?_ | with_reducible refine alt_intro ?_ fun _h => ?_ | with_reducible refine pickD_nil ?_ | (with_reducible refine brc (fun _h => ?_) fun _h => ?_) <;> first | (exfalso; omega) | simp only [decide_eq_false _h] | simp only [(_h : (_ : Bool) = _)] | simp only [decide_eq_true _h] | skip)
            have hR2 := runsG_same (x := nth all' i) (ho1 ▸ hR) wx.2.2.1 hq
            have hpu : putAt out (out.length - 1) (g.1, g.2 + (nth all' i).2) = o ++ [(g.1, g.2 + (nth all' i).2)] := by rw [← ho2, ho1]; exact put_last rfl
            rw [← hst, ← hpu] at hR2
            have h5 : (putAt out (out.length - 1) (g.1, g.2 + (nth all' i).2)).length = out.length := putAt_len (by omega) _
            exact ⟨(i + 1, putAt out (out.length - 1) (g.1, g.2 + (nth all' i).2)), ⟨by show all'.length - (i + 1) < _; omega, by show i + 1 ≤ _; omega, hR2⟩, ⟨⟨by show _ = (putAt out (out.length - 1) (g.1, g.2 + (nth all' i).2)).length * 2; rw [h5], h5.symm⟩, by show (i : Int) + 1 = ((i + 1 : Nat) : Int); omega⟩, rfl⟩
          · rw [decide_eq_false hq] at c4
            repeat' (first | with_reducible refine inw ?_ | simp (maxSteps := 900000) (disch := omega) only [go_sem, Nat.reduceEqDiff, ↓reduceIte, reduceCtorEq, Nat.reduceAdd, Nat.reduceMul, Int.reduceToNat, List.reduceReplicate, Nat.reduceLeDiff, Nat.reduceLT, Int.reduceLT, Int.reduceLE, Int.reduceEq, e0, e1, e2, e3, z2, eC, src_two] | (with_reducible apply call_D (c3)); (focus simp (maxSteps := 900000) (disch := omega) only [go_sem, Nat.reduceEqDiff, ↓reduceIte, reduceCtorEq, Nat.reduceAdd, Nat.reduceMul, Int.reduceToNat, List.reduceReplicate, Nat.reduceLeDiff, Nat.reduceLT, Int.reduceLT, Int.reduceLE, Int.reduceEq, e0, e1, e2, e3, z2, eC, src_two] <;> rfl) | (with_reducible apply call_D (c4)); (focus simp (maxSteps := 900000) (disch := omega) only [go_sem, Nat.reduceEqDiff, ↓reduceIte, reduceCtorEq, Nat.reduceAdd, Nat.reduceMul, Int.reduceToNat, List.reduceReplicate, Nat.reduceLeDiff, Nat.reduceLT, Int.reduceLT, Int.reduceLE, Int.reduceEq, e0, e1, e2, e3, z2, eC, src_two] <;> rfl) | with_reducible refine pickB_f ?_ | with_reducible refine giv_intro fun _h => ?_ | with_reducible refine alt_intro ?_ fun _h => ?_ | with_reducible refine pickD_nil ?_ | (with_reducible refine brc (fun _h => ?_) fun _h => ?_) <;> first | (exfalso; omega) | simp only [decide_eq_false _h] | simp only [(_h : (_ : Bool) = _)] | simp only [decide_eq_true _h] | skip)
            refine hnew fun o' g' e4 => ?_
            have e5 := List.append_inj' (ho1.symm.trans e4) rfl
            have e6 : g = g' := by simpa using e5.2
            rw [← e6]; exact hq
        · repeat' (first | with_reducible refine inw ?_ | simp (maxSteps := 900000) (disch := omega) only [go_sem, Nat.reduceEqDiff, ↓reduceIte, reduceCtorEq, Nat.reduceAdd, Nat.reduceMul, Int.reduceToNat, List.reduceReplicate, Nat.reduceLeDiff, Nat.reduceLT, Int.reduceLT, Int.reduceLE, Int.reduceEq, z2, eC, src_two] | (with_reducible apply call_D (c3)); (focus simp (maxSteps := 900000) (disch := omega) only [go_sem, Nat.reduceEqDiff, ↓reduceIte, reduceCtorEq, Nat.reduceAdd, Nat.reduceMul, Int.reduceToNat, List.reduceReplicate, Nat.reduceLeDiff, Nat.reduceLT, Int.reduceLT, Int.reduceLE, Int.reduceEq, z2, eC, src_two] <;> rfl) | with_reducible refine pickB_f ?_ | with_reducible refine giv_intro fun _h => ?_ | with_reducible refine alt_intro ?_ fun _h => ?_ | with_reducible refine pickD_nil ?_ | (with_reducible refine brc (fun _h => ?_) fun _h => ?_) <;> first | (exfalso; omega) | simp only [decide_eq_false _h] | simp only [(_h : (_ : Bool) = _)] | simp only [decide_eq_true _h] | skip)
          exact hnew fun o' g' e4 => absurd (show 0 < out.length by rw [e4]; simp) ho
      · have hi3 : i = all'.length := by omega
        subst hi3
        rw [List.take_length] at hR
        have hfin : out = insAG all := runsG_eq hR hp fun g hg => (hw g hg).2.2.1
        subst hfin
        have hol := insAG_len all
        generalize insAG all = out at *
        have c5 := containsFuncG_ok (fun g => decide (1000 < g.2)) 96 out (fun g _ => merge2_ok g) (by omega)
        by_cases hl2 : 200 < out.length
        · have e5 : largeG out = true := by rw [largeG, decide_eq_true hl2]; rfl
          rw [e5]
          repeat' (first | with_reducible refine inw ?_ | simp (maxSteps := 900000) (disch := omega) only [go_sem, Nat.reduceEqDiff, ↓reduceIte, reduceCtorEq, Nat.reduceAdd, Nat.reduceMul, Int.reduceToNat, List.reduceReplicate, Nat.reduceLeDiff, Nat.reduceLT, Int.reduceLT, Int.reduceLE, Int.reduceEq] | (with_reducible apply call_lend (c5)); (focus simp (maxSteps := 900000) (disch := omega) only [go_sem, Nat.reduceEqDiff, ↓reduceIte, reduceCtorEq, Nat.reduceAdd, Nat.reduceMul, Int.reduceToNat, List.reduceReplicate, Nat.reduceLeDiff, Nat.reduceLT, Int.reduceLT, Int.reduceLE, Int.reduceEq] <;> rfl); (focus rfl) | with_reducible refine pickB_f ?_ | with_reducible refine giv_intro fun _h => ?_ | with_reducible refine alt_intro ?_ fun _h => ?_ | with_reducible refine pickD_nil ?_ | (with_reducible refine brc (fun _h => ?_) fun _h => ?_) <;> first | (exfalso; omega) | simp only [decide_eq_false _h] | simp only [(_h : (_ : Bool) = _)] | simp only [decide_eq_true _h] | skip)
          all_goals rfl
        · cases hany : out.any (fun g => decide (1000 < g.2)) with
          | true =>
            rw [hany] at c5
            have e5 : largeG out = true := by rw [largeG, hany, Bool.or_true]
            rw [e5]
            repeat' (first | with_reducible refine inw ?_ | simp (maxSteps := 900000) (disch := omega) only [go_sem, Nat.reduceEqDiff, ↓reduceIte, reduceCtorEq, Nat.reduceAdd, Nat.reduceMul, Int.reduceToNat, List.reduceReplicate, Nat.reduceLeDiff, Nat.reduceLT, Int.reduceLT, Int.reduceLE, Int.reduceEq] | (with_reducible apply call_lend (c5)); (focus simp (maxSteps := 900000) (disch := omega) only [go_sem, Nat.reduceEqDiff, ↓reduceIte, reduceCtorEq, Nat.reduceAdd, Nat.reduceMul, Int.reduceToNat, List.reduceReplicate, Nat.reduceLeDiff, Nat.reduceLT, Int.reduceLT, Int.reduceLE, Int.reduceEq] <;> rfl); (focus rfl) | with_reducible refine pickB_f ?_ | with_reducible refine giv_intro fun _h => ?_ | with_reducible refine alt_intro ?_ fun _h => ?_ | with_reducible refine pickD_nil ?_ | (with_reducible refine brc (fun _h => ?_) fun _h => ?_) <;> first | (exfalso; omega) | simp only [decide_eq_false _h] | simp only [(_h : (_ : Bool) = _)] | simp only [decide_eq_true _h] | skip)
            all_goals rfl
          | false =>
            rw [hany] at c5
            have e5 : largeG out = false := by rw [largeG, hany, decide_eq_false hl2]; rfl
            rw [e5]
            repeat' (first | with_reducible refine inw ?_ | simp (maxSteps := 900000) (disch := omega) only [go_sem, Nat.reduceEqDiff, ↓reduceIte, reduceCtorEq, Nat.reduceAdd, Nat.reduceMul, Int.reduceToNat, List.reduceReplicate, Nat.reduceLeDiff, Nat.reduceLT, Int.reduceLT, Int.reduceLE, Int.reduceEq] | (with_reducible apply call_lend (c5)); (focus simp (maxSteps := 900000) (disch := omega) only [go_sem, Nat.reduceEqDiff, ↓reduceIte, reduceCtorEq, Nat.reduceAdd, Nat.reduceMul, Int.reduceToNat, List.reduceReplicate, Nat.reduceLeDiff, Nat.reduceLT, Int.reduceLT, Int.reduceLE, Int.reduceEq] <;> rfl); (focus rfl) | with_reducible refine pickB_f ?_ | with_reducible refine giv_intro fun _h => ?_ | with_reducible refine alt_intro ?_ fun _h => ?_ | with_reducible refine pickD_nil ?_ | (with_reducible refine brc (fun _h => ?_) fun _h => ?_) <;> first | (exfalso; omega) | simp only [decide_eq_false _h] | simp only [(_h : (_ : Bool) = _)] | simp only [decide_eq_true _h] | skip)
            all_goals rfl
/-- ablaut/ablautlaw27.TallyGrams: 2 parameters, 0 captured -/
def s10 : SC := .seq (.reg [o1 4 (.mv (cB false))])
  (.seq (.seq (.reg [o1 9 (.mv (.t 0)),
     o1 10 (.call (.f 31) [(.t 9)]),
     o1 11 (.bin .gtr (.t 10) (cI 400000))])
    (.cond (.t 11) (.seq (.reg [o1 12 (.call (.f 17) []),
       o1 4 (.mv (.t 12))])
      (.ret)) (.skip)))
   (.seq (.reg [o1 14 (.mv (.t 0)),
     o1 15 (.mv (.t 1)),
     o1 16 (.call (.f 37) [(.t 14), (.t 15)]),
     o1 13 (.mv (.t 16)),
     o1 17 (.ext (.t 13) 0),
     o1 18 (.ext (.t 13) 1),
     o1 5 (.mv (.t 17)),
     o1 6 (.mv (.t 18))])
    (.seq (.reg [o1 20 (.mv (.t 0)),
      o1 21 (.mv (.t 1)),
      o1 22 (.call (.f 38) [(.t 20), (.t 21)]),
      o1 19 (.mv (.t 22)),
      o1 23 (.ext (.t 19) 0),
      o1 24 (.ext (.t 19) 1),
      o1 7 (.mv (.t 23)),
      o1 8 (.mv (.t 24))])
     (.seq (.reg [o1 25 (.mv (.t 5)),
       o1 26 (.mv (.t 7)),
       o1 27 (.call (.f 39) [(.t 25), (.t 26)]),
       o1 28 (.mv (.t 27)),
       oT 29 (.mv (.t 6)) 28,
       oT 30 (.mv (.t 8)) 28,
       oT 31 (.bin .eql (.t 29) (.t 30)) 28,
       o1 32 (.pick (.t 28) (.t 31) (cB false)),
       o1 33 (.mv (.t 32)),
       oT 34 (.call (.f 17) []) 33,
       o1 35 (.pick (.t 33) (.t 34) (cB false)),
       o1 4 (.mv (.t 35))])
      (.ret)))))
theorem s10_ok : lookF Try.prog 10 = some (s10, 36, [.tmp 4]) := by kernel_rfl
theorem TallyGrams_ok (l : List Str) (n : Int) (hl : l.length ≤ 8796093022208) (hs : ∀ s ∈ l, s.size ≤ 140737488351232) : Fn P 10 [sl l, intA n] (boolA true) := by
  have c1 := texts_ok l hl hs
  have c2 := tGrams_is l n hl
  have c3 := rGrams_ok l n hl
  have hw : ∀ g ∈ (gramT l n).1, g.1.length ≤ 8796093022208 := fun g hg => by
    unfold gramT at hg
    split at hg
    · cases hg
    split at hg
    · cases hg
    · obtain ⟨x, hx, e⟩ := insAG_mem _ g hg
      have := (ones_mem hx).1
      simp only [rowsT, List.mem_map] at this
      obtain ⟨j, _, h⟩ := this
      rw [← e, ← h, List.length_take]; omega
  have hln : (gramT l n).1.length ≤ 8796093022208 := by
    unfold gramT
    split
    · simp
    split
    · simp
    · have h1 := insAG_len (ones (rowsT l n.toNat))
      have h2 : (ones (rowsT l n.toNat)).length = l.length + 1 - n.toNat := by rw [ones, List.length_map, rowsT_len]
      rename_i h3 _
      show (insAG _).length ≤ _
      omega
  have c4 := sameG_ok (gramT l n).1 hln hw
  generalize gramT l n = r at *
  (refine fn_look s10_ok (by simp) (by intro k; simp only [go_sem, Nat.reduceEqDiff, ↓reduceIte, reduceCtorEq, Nat.reduceAdd, Nat.reduceMul, Int.reduceToNat, List.reduceReplicate, Nat.reduceLeDiff, Nat.reduceLT, Int.reduceLT, Int.reduceLE, Int.reduceEq]) fun S hS => cwp_sound _ _ _ _ ?_; simp (maxSteps := 900000) (disch := omega) only [s10, go_sem, Nat.reduceEqDiff, ↓reduceIte, reduceCtorEq, Nat.reduceAdd, Nat.reduceMul, Int.reduceToNat, List.reduceReplicate, Nat.reduceLeDiff, Nat.reduceLT, Int.reduceLT, Int.reduceLE, Int.reduceEq])
  repeat' (first | with_reducible refine inw ?_ | simp (maxSteps := 900000) (disch := omega) only [go_sem, Nat.reduceEqDiff, ↓reduceIte, reduceCtorEq, Nat.reduceAdd, Nat.reduceMul, Int.reduceToNat, List.reduceReplicate, Nat.reduceLeDiff, Nat.reduceLT, Int.reduceLT, Int.reduceLE, Int.reduceEq] | (with_reducible apply call (c1)); (focus simp (maxSteps := 900000) (disch := omega) only [go_sem, Nat.reduceEqDiff, ↓reduceIte, reduceCtorEq, Nat.reduceAdd, Nat.reduceMul, Int.reduceToNat, List.reduceReplicate, Nat.reduceLeDiff, Nat.reduceLT, Int.reduceLT, Int.reduceLE, Int.reduceEq] <;> rfl) | (with_reducible apply call (c2)); (focus simp (maxSteps := 900000) (disch := omega) only [go_sem, Nat.reduceEqDiff, ↓reduceIte, reduceCtorEq, Nat.reduceAdd, Nat.reduceMul, Int.reduceToNat, List.reduceReplicate, Nat.reduceLeDiff, Nat.reduceLT, Int.reduceLT, Int.reduceLE, Int.reduceEq] <;> rfl) | (with_reducible apply call (c3)); (focus simp (maxSteps := 900000) (disch := omega) only [go_sem, Nat.reduceEqDiff, ↓reduceIte, reduceCtorEq, Nat.reduceAdd, Nat.reduceMul, Int.reduceToNat, List.reduceReplicate, Nat.reduceLeDiff, Nat.reduceLT, Int.reduceLT, Int.reduceLE, Int.reduceEq] <;> rfl) | (with_reducible apply call (c4)); (focus simp (maxSteps := 900000) (disch := omega) only [go_sem, Nat.reduceEqDiff, ↓reduceIte, reduceCtorEq, Nat.reduceAdd, Nat.reduceMul, Int.reduceToNat, List.reduceReplicate, Nat.reduceLeDiff, Nat.reduceLT, Int.reduceLT, Int.reduceLE, Int.reduceEq] <;> rfl) | (with_reducible apply call (known_ok)); (focus simp (maxSteps := 900000) (disch := omega) only [go_sem, Nat.reduceEqDiff, ↓reduceIte, reduceCtorEq, Nat.reduceAdd, Nat.reduceMul, Int.reduceToNat, List.reduceReplicate, Nat.reduceLeDiff, Nat.reduceLT, Int.reduceLT, Int.reduceLE, Int.reduceEq] <;> rfl) | with_reducible refine pickB_f ?_ | with_reducible refine giv_intro fun _h => ?_ | with_reducible refine alt_intro ?_ fun _h => ?_ | with_reducible refine pickD_nil ?_ | (with_reducible refine brc (fun _h => ?_) fun _h => ?_) <;> first | (exfalso; omega) | simp only [decide_eq_false _h] | simp only [(_h : (_ : Bool) = _)] | simp only [decide_eq_true _h] | skip)
theorem mergeT_small {a b : List Gram} (ha : ∀ g ∈ a, g.1.length ≤ 8796093022208) (hb : ∀ g ∈ b, g.1.length ≤ 8796093022208) : (mergeT a b).1.length ≤ 8796093022208 ∧ ∀ g ∈ (mergeT a b).1, g.1.length ≤ 8796093022208 := by
  refine ⟨?_, fun g hg => ?_⟩
  · by_cases h : (mergeT a b).2 = 0
    · obtain ⟨g1, g2, _, _⟩ := mergeT_ok.1 h
      rw [mergeT_val h]
      have := insAG_len (a ++ b)
      have l1 := (good_of g1).len
      have l2 := (good_of g2).len
      rw [List.length_append] at this
      omega
    · unfold mergeT at h ⊢
      split
      · simp
      split
      · simp
      split
      · simp
      · rename_i h1 h2 h3
        rw [if_neg h1, if_neg h2, if_neg h3] at h
        exact absurd rfl h
  · obtain ⟨x, hx, e⟩ := merge_words g hg
    rw [← e]
    exact (List.mem_append.1 hx).elim (ha x) (hb x)
/-- ablaut/ablautlaw27.TallyMerges: 2 parameters, 0 captured -/
def s11 : SC := .seq (.reg [o1 4 (.mv (cB false))])
  (.seq (.seq (.reg [o1 9 (.mv (.t 0)),
     o1 10 (.call (.f 30) [(.t 9)]),
     o1 11 (.bin .gtr (.t 10) (cI 400000)),
     o1 12 (.mv (.t 11)),
     oF 13 (.mv (.t 1)) 12,
     oF 14 (.call (.f 30) [(.t 13)]) 12,
     oF 15 (.bin .gtr (.t 14) (cI 400000)) 12,
     o1 16 (.pick (.t 12) (cB true) (.t 15))])
    (.cond (.t 16) (.seq (.reg [o1 17 (.call (.f 17) []),
       o1 4 (.mv (.t 17))])
      (.ret)) (.skip)))
   (.seq (.reg [o1 19 (.mv (.t 0)),
     o1 20 (.mv (.t 1)),
     o1 21 (.call (.f 40) [(.t 19), (.t 20)]),
     o1 18 (.mv (.t 21)),
     o1 22 (.ext (.t 18) 0),
     o1 23 (.ext (.t 18) 1),
     o1 5 (.mv (.t 22)),
     o1 6 (.mv (.t 23))])
    (.seq (.reg [o1 25 (.mv (.t 0)),
      o1 26 (.mv (.t 1)),
      o1 27 (.call (.f 41) [(.t 25), (.t 26)]),
      o1 24 (.mv (.t 27)),
      o1 28 (.ext (.t 24) 0),
      o1 29 (.ext (.t 24) 1),
      o1 7 (.mv (.t 28)),
      o1 8 (.mv (.t 29))])
     (.seq (.reg [o1 30 (.mv (.t 5)),
       o1 31 (.mv (.t 7)),
       o1 32 (.call (.f 39) [(.t 30), (.t 31)]),
       o1 33 (.mv (.t 32)),
       oT 34 (.mv (.t 6)) 33,
       oT 35 (.mv (.t 8)) 33,
       oT 36 (.bin .eql (.t 34) (.t 35)) 33,
       o1 37 (.pick (.t 33) (.t 36) (cB false)),
       o1 38 (.mv (.t 37)),
       oT 39 (.call (.f 17) []) 38,
       o1 40 (.pick (.t 38) (.t 39) (cB false)),
       o1 4 (.mv (.t 40))])
      (.ret)))))
theorem s11_ok : lookF Try.prog 11 = some (s11, 41, [.tmp 4]) := by kernel_rfl
theorem TallyMerges_ok (a b : List Gram) (la : a.length ≤ 8796093022208) (lb : b.length ≤ 8796093022208) (ha : ∀ g ∈ a, g.1.length ≤ 8796093022208 ∧ ∀ s ∈ g.1, s.size ≤ 140737488351232) (hb : ∀ g ∈ b, g.1.length ≤ 8796093022208 ∧ ∀ s ∈ g.1, s.size ≤ 140737488351232) : Fn P 11 [sl a, sl b] (boolA true) := by
  have c1 := grams_ok a la ha
  have c2 := grams_ok b lb hb
  have c3 := tMerge_ok a b (fun g hg => (ha g hg).1) (fun g hg => (hb g hg).1)
  have c4 := rMerge_ok a b (fun g hg => (ha g hg).1) (fun g hg => (hb g hg).1)
  have hm := mergeT_small (a := a) (b := b) (fun g hg => (ha g hg).1) (fun g hg => (hb g hg).1)
  have c5 := sameG_ok (mergeT a b).1 hm.1 hm.2
  generalize mergeT a b = r at *
  (refine fn_look s11_ok (by simp) (by intro k; simp only [go_sem, Nat.reduceEqDiff, ↓reduceIte, reduceCtorEq, Nat.reduceAdd, Nat.reduceMul, Int.reduceToNat, List.reduceReplicate, Nat.reduceLeDiff, Nat.reduceLT, Int.reduceLT, Int.reduceLE, Int.reduceEq]) fun S hS => cwp_sound _ _ _ _ ?_; simp (maxSteps := 900000) (disch := omega) only [s11, go_sem, Nat.reduceEqDiff, ↓reduceIte, reduceCtorEq, Nat.reduceAdd, Nat.reduceMul, Int.reduceToNat, List.reduceReplicate, Nat.reduceLeDiff, Nat.reduceLT, Int.reduceLT, Int.reduceLE, Int.reduceEq])
  repeat' (first | with_reducible refine inw ?_ | simp (maxSteps := 900000) (disch := omega) only [go_sem, Nat.reduceEqDiff, ↓reduceIte, reduceCtorEq, Nat.reduceAdd, Nat.reduceMul, Int.reduceToNat, List.reduceReplicate, Nat.reduceLeDiff, Nat.reduceLT, Int.reduceLT, Int.reduceLE, Int.reduceEq] | (with_reducible apply call (c1)); (focus simp (maxSteps := 900000) (disch := omega) only [go_sem, Nat.reduceEqDiff, ↓reduceIte, reduceCtorEq, Nat.reduceAdd, Nat.reduceMul, Int.reduceToNat, List.reduceReplicate, Nat.reduceLeDiff, Nat.reduceLT, Int.reduceLT, Int.reduceLE, Int.reduceEq] <;> rfl) | (with_reducible apply call (c2)); (focus simp (maxSteps := 900000) (disch := omega) only [go_sem, Nat.reduceEqDiff, ↓reduceIte, reduceCtorEq, Nat.reduceAdd, Nat.reduceMul, Int.reduceToNat, List.reduceReplicate, Nat.reduceLeDiff, Nat.reduceLT, Int.reduceLT, Int.reduceLE, Int.reduceEq] <;> rfl) | (with_reducible apply call (c3)); (focus simp (maxSteps := 900000) (disch := omega) only [go_sem, Nat.reduceEqDiff, ↓reduceIte, reduceCtorEq, Nat.reduceAdd, Nat.reduceMul, Int.reduceToNat, List.reduceReplicate, Nat.reduceLeDiff, Nat.reduceLT, Int.reduceLT, Int.reduceLE, Int.reduceEq] <;> rfl) | (with_reducible apply call (c4)); (focus simp (maxSteps := 900000) (disch := omega) only [go_sem, Nat.reduceEqDiff, ↓reduceIte, reduceCtorEq, Nat.reduceAdd, Nat.reduceMul, Int.reduceToNat, List.reduceReplicate, Nat.reduceLeDiff, Nat.reduceLT, Int.reduceLT, Int.reduceLE, Int.reduceEq] <;> rfl) | (with_reducible apply call (c5)); (focus simp (maxSteps := 900000) (disch := omega) only [go_sem, Nat.reduceEqDiff, ↓reduceIte, reduceCtorEq, Nat.reduceAdd, Nat.reduceMul, Int.reduceToNat, List.reduceReplicate, Nat.reduceLeDiff, Nat.reduceLT, Int.reduceLT, Int.reduceLE, Int.reduceEq] <;> rfl) | (with_reducible apply call (known_ok)); (focus simp (maxSteps := 900000) (disch := omega) only [go_sem, Nat.reduceEqDiff, ↓reduceIte, reduceCtorEq, Nat.reduceAdd, Nat.reduceMul, Int.reduceToNat, List.reduceReplicate, Nat.reduceLeDiff, Nat.reduceLT, Int.reduceLT, Int.reduceLE, Int.reduceEq] <;> rfl) | with_reducible refine pickB_f ?_ | with_reducible refine giv_intro fun _h => ?_ | with_reducible refine alt_intro ?_ fun _h => ?_ | with_reducible refine pickD_nil ?_ | (with_reducible refine brc (fun _h => ?_) fun _h => ?_) <;> first | (exfalso; omega) | simp only [decide_eq_false _h] | simp only [(_h : (_ : Bool) = _)] | simp only [decide_eq_true _h] | skip)
end Go.Proofs.Ytedbjmonfbpefaa.Ev

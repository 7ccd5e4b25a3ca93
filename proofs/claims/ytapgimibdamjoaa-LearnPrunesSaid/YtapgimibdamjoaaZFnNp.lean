/- The best change: the reference. -/
import Derived.Test.YtapgimibdamjoaaZFnNo
import Derived.Test.YtapgimibdamjoaaZEvY
set_option linter.unusedVariables false
set_option linter.unusedSimpArgs false
namespace Go.Proofs.Ytapgimibdamjoaa.Ev
open Go Go.Proofs Go.RowKit

abbrev bcA (t : Change × Int) : AV := .tup [chA t.1, intA t.2]
abbrev SmW (ls : List Lesson) : Prop := ∀ x ∈ ls, (∀ s ∈ x.1, s.size ≤ 4611686018427387904) ∧ ∀ s ∈ x.2.1, s.size ≤ 4611686018427387904 ∧ nameB s = true
theorem sm_arg {ls : List Lesson} (hs : SmW ls) {i : Nat} (hi : i ≤ ls.length) {c : Change} (h : c ∈ gLs ls i) : (0 ≤ c.2.2.1 ∧ c.2.2.1 ≤ 9) ∧ c.2.2.2.size ≤ 4611686018427387904 ∧ (c.2.2.1 < 6 ∨ c.2.2.1 = 9 → argB c = true) ∧ (¬(c.2.2.1 < 6 ∨ c.2.2.1 = 9) → argB c = plainB c.2.2.2) := by
  obtain ⟨x, hx, k, hk, h1, h2, h3⟩ := mem_gL h hi
  obtain ⟨w1, w2⟩ := hs x hx
  refine ⟨h2, ?_, fun hh => ?_, fun hh => ?_⟩
  · rcases mem_args h3 with ⟨_, e⟩ | ⟨_, e⟩
    · rw [e]; exact Nat.zero_le _
    · split at e
      · exact w1 _ e
      · exact (w2 _ e).1
  · rcases mem_args h3 with ⟨e1, e⟩ | ⟨e1, e⟩
    · rw [argB, if_neg (by omega), if_neg (by omega), e]; simp
    · rw [if_neg (by omega)] at e
      rw [argB, if_pos (by omega)]; exact (w2 _ e).2
  · rw [argB, if_neg (by omega), if_pos (by omega)]
def bestS (ls : List Lesson) (G left : List (Change × Int)) (c : Change) : Prop := Cand c ∧ (getM G c).isSome ∧ getM left c = none
theorem bestS_step {ls : List Lesson} {G left : List (Change × Int)} (hu : keysU left) (hsub : ∀ c v, getM left c = some v → getM G c = some v) {i : Nat} (hi : i < left.length) (hc : Cand left[i].1) (x : Change) : bestS ls G (left.eraseIdx i) x ↔ bestS ls G left x ∨ x = left[i].1 := by
  simp only [bestS, getM_erase hu hi]
  by_cases e : x = left[i].1
  · subst e
    have h1 := getM_get hu hi
    have h2 := hsub _ _ h1
    simp [h2, h1]
    exact hc
  · simp [e]
theorem bestS_skip {ls : List Lesson} {G left : List (Change × Int)} (hu : keysU left) {i : Nat} (hi : i < left.length) (hc : ¬Cand left[i].1) (x : Change) : bestS ls G (left.eraseIdx i) x ↔ bestS ls G left x := by
  simp only [bestS, getM_erase hu hi]
  by_cases e : x = left[i].1
  · subst e; simp [hc]
  · simp [e]
/-- ablaut/ablautref22.best: 1 parameters, 0 captured -/
def s47 : SC := .seq (.reg [o1 2 (.alloc 32 4 [(.string ⟨#[]⟩), (.string ⟨#[]⟩), (.int .i64 0), (.string ⟨#[]⟩)]),
   o1 3 (.mv (cI 0))])
  (.seq (.reg [o1 16 (.mkmap),
    o1 17 (.mkmap),
    o1 4 (.mv (.t 16)),
    o1 5 (.mv (.t 17))])
   (.seq (.seq (.reg [o1 6 (.mv (cI 0))])
     (.block 0 (.loop (.seq (.seq (.reg [o1 18 (.mv (.t 6)),
          o1 19 (.mv (.t 0)),
          o1 20 (.lenL (.t 19)),
          o1 21 (.bin .lss (.t 18) (.t 20))])
         (.cond (.t 21) (.skip) (.exit 0)))
        (.seq (.block 1 (.seq (.reg [o1 24 (.mv (.t 0)),
            o1 25 (.mv (.t 6)),
            o1 26 (.iaddr 3 (.t 24) (.t 25)),
            o1 27 (.load (some 3) (.t 26)),
            o1 7 (.alloc 56 3 [(.slice none 0 0), (.slice none 0 0), (.slice none 0 0)]),
            o0 (.store 3 (.t 7) (.t 27))])
           (.seq (.reg [o1 8 (.mv (cI 0))])
            (.block 2 (.loop (.seq (.seq (.reg [o1 28 (.mv (.t 8)),
                 o1 29 (.faddr 1 (.t 7)),
                 o1 30 (.load none (.t 29)),
                 o1 31 (.lenL (.t 30)),
                 o1 32 (.bin .lss (.t 28) (.t 31))])
                (.cond (.t 32) (.skip) (.exit 2)))
               (.seq (.block 3 (.seq (.reg [o1 9 (.mv (cI 0))])
                  (.block 4 (.loop (.seq (.seq (.reg [o1 35 (.mv (.t 9)),
                       o1 36 (.bin .leq (.t 35) (cI 9))])
                      (.cond (.t 36) (.skip) (.exit 4)))
                     (.seq (.block 5 (.seq (.reg [o1 39 (.mv (.t 9)),
                         o1 40 (.faddr 0 (.t 7)),
                         o1 41 (.load none (.t 40)),
                         o1 42 (.faddr 1 (.t 7)),
                         o1 43 (.load none (.t 42)),
                         o1 44 (.mv (.t 8)),
                         o1 45 (.call (.f 68) [(.t 39), (.t 41), (.t 43), (.t 44)]),
                         o1 10 (.mv (.t 45))])
                        (.seq (.reg [o1 11 (.mv (cI 0))])
                         (.block 6 (.loop (.seq (.seq (.reg [o1 46 (.mv (.t 11)),
                              o1 47 (.mv (.t 10)),
                              o1 48 (.lenL (.t 47)),
                              o1 49 (.bin .lss (.t 46) (.t 48))])
                             (.cond (.t 49) (.skip) (.exit 6)))
                            (.seq (.block 7 (.seq (.regD [o1 52 (.faddr 1 (.t 7)),
                                o1 53 (.load none (.t 52)),
                                o1 54 (.mv (.t 8)),
                                o1 55 (.iaddr 1 (.t 53) (.t 54)),
                                o1 56 (.load none (.t 55)),
                                o1 57 (.faddr 2 (.t 7)),
                                o1 58 (.load none (.t 57)),
                                o1 59 (.mv (.t 8)),
                                o1 60 (.iaddr 1 (.t 58) (.t 59)),
                                o1 61 (.load none (.t 60)),
                                o1 62 (.bin .eql (.t 56) (.t 61))])
                               (.cond (.t 62) (.regG [(true, o1 63 (.mv (.t 5))),
                                 (true, o1 64 (.faddr 1 (.t 7))),
                                 (true, o1 65 (.load none (.t 64))),
                                 (true, o1 66 (.mv (.t 8))),
                                 (true, o1 67 (.iaddr 1 (.t 65) (.t 66))),
                                 (true, o1 68 (.load none (.t 67))),
                                 (true, o1 69 (.mv (.t 9))),
                                 (true, o1 70 (.mv (.t 10))),
                                 (true, o1 71 (.mv (.t 11))),
                                 (true, o1 72 (.iaddr 1 (.t 70) (.t 71))),
                                 (true, o1 73 (.load none (.t 72))),
                                 (true, o1 74 (.build [(.string ⟨#[]⟩), (.int .i64 0), (.string ⟨#[]⟩)] [(0, 1, (.t 68)), (1, 1, (.t 69)), (2, 1, (.t 73))])),
                                 (true, o1 75 (.look (.flds [.str, .int .i64, .str]) (.int .i64 0) false (.t 63) (.t 74))),
                                 (true, o1 76 (.bin .add (.t 75) (cI 1))),
                                 (true, o1 77 (.mentry (.flds [.str, .int .i64, .str]) (.int .i64 0) (.t 63) (.t 74))),
                                 (false, o1 78 (.ext (.t 77) 1)),
                                 (false, o0 (.mstore (.t 63) (.t 78) (.t 76)))]) (.regG [(true, o1 79 (.mv (.t 4))),
                                 (true, o1 80 (.faddr 1 (.t 7))),
                                 (true, o1 81 (.load none (.t 80))),
                                 (true, o1 82 (.mv (.t 8))),
                                 (true, o1 83 (.iaddr 1 (.t 81) (.t 82))),
                                 (true, o1 84 (.load none (.t 83))),
                                 (true, o1 85 (.faddr 2 (.t 7))),
                                 (true, o1 86 (.load none (.t 85))),
                                 (true, o1 87 (.mv (.t 8))),
                                 (true, o1 88 (.iaddr 1 (.t 86) (.t 87))),
                                 (true, o1 89 (.load none (.t 88))),
                                 (true, o1 90 (.mv (.t 9))),
                                 (true, o1 91 (.mv (.t 10))),
                                 (true, o1 92 (.mv (.t 11))),
                                 (true, o1 93 (.iaddr 1 (.t 91) (.t 92))),
                                 (true, o1 94 (.load none (.t 93))),
                                 (true, o1 95 (.build [(.string ⟨#[]⟩), (.string ⟨#[]⟩), (.int .i64 0), (.string ⟨#[]⟩)] [(0, 1, (.t 84)), (1, 1, (.t 89)), (2, 1, (.t 90)), (3, 1, (.t 94))])),
                                 (true, o1 96 (.look (.flds [.str, .str, .int .i64, .str]) (.int .i64 0) false (.t 79) (.t 95))),
                                 (true, o1 97 (.bin .add (.t 96) (cI 1))),
                                 (true, o1 98 (.mentry (.flds [.str, .str, .int .i64, .str]) (.int .i64 0) (.t 79) (.t 95))),
                                 (false, o1 99 (.ext (.t 98) 1)),
                                 (false, o0 (.mstore (.t 79) (.t 99) (.t 97)))]))))
                             (.reg [o1 50 (.mv (.t 11)),
                              o1 51 (.bin .add (.t 50) (cI 1)),
                              o1 11 (.mv (.t 51))]))))))))
                      (.reg [o1 37 (.mv (.t 9)),
                       o1 38 (.bin .add (.t 37) (cI 1)),
                       o1 9 (.mv (.t 38))])))))))
                (.reg [o1 33 (.mv (.t 8)),
                 o1 34 (.bin .add (.t 33) (cI 1)),
                 o1 8 (.mv (.t 34))]))))))))
         (.reg [o1 22 (.mv (.t 6)),
          o1 23 (.bin .add (.t 22) (cI 1)),
          o1 6 (.mv (.t 23))]))))))
    (.seq (.reg [o1 12 (.mv (cI 0))])
     (.seq (.reg [o1 13 (.alloc 32 4 [(.string ⟨#[]⟩), (.string ⟨#[]⟩), (.int .i64 0), (.string ⟨#[]⟩)])])
      (.seq (.seq (.reg [o1 100 (.mv (.t 4)),
         o1 101 (.rangeM (.t 100))])
        (.block 8 (.loop (.seq (.reg [o1 102 (.nextM (.t 101)),
            o1 103 (.ext (.t 102) 0)])
           (.seq (.cond (.t 103) (.skip) (.exit 8))
            (.block 9 (.seq (.reg [o1 104 (.entryM (.t 101)),
               o1 105 (.ext (.t 104) 0),
               o1 106 (.ext (.t 104) 1),
               o1 14 (.alloc 32 4 [(.string ⟨#[]⟩), (.string ⟨#[]⟩), (.int .i64 0), (.string ⟨#[]⟩)]),
               o0 (.store 4 (.t 14) (.t 105)),
               o1 15 (.mv (.t 106))])
              (.seq (.reg [o1 107 (.mv (.t 15)),
                o1 108 (.mv (.t 5)),
                o1 109 (.faddr 0 (.t 14)),
                o1 110 (.load none (.t 109)),
                o1 111 (.faddr 2 (.t 14)),
                o1 112 (.load none (.t 111)),
                o1 113 (.faddr 3 (.t 14)),
                o1 114 (.load none (.t 113)),
                o1 115 (.build [(.string ⟨#[]⟩), (.int .i64 0), (.string ⟨#[]⟩)] [(0, 1, (.t 110)), (1, 1, (.t 112)), (2, 1, (.t 114))]),
                o1 116 (.look (.flds [.str, .int .i64, .str]) (.int .i64 0) false (.t 108) (.t 115)),
                o1 117 (.bin .sub (.t 107) (.t 116)),
                o1 15 (.mv (.t 117))])
               (.seq (.reg [o1 118 (.faddr 2 (.t 14)),
                 o1 119 (.load none (.t 118)),
                 o1 120 (.bin .lss (.t 119) (cI 6)),
                 o1 121 (.mv (.t 120)),
                 oF 122 (.faddr 2 (.t 14)) 121,
                 oF 123 (.load none (.t 122)) 121,
                 oF 124 (.bin .eql (.t 123) (cI 9)) 121,
                 o1 125 (.pick (.t 121) (cB true) (.t 124)),
                 o1 126 (.mv (.t 125)),
                 oF 127 (.faddr 3 (.t 14)) 126,
                 oF 128 (.load none (.t 127)) 126,
                 oF 129 (.call (.f 63) [(.t 128)]) 126,
                 o1 130 (.pick (.t 126) (cB true) (.t 129)),
                 o1 131 (.mv (.t 130)),
                 oT 132 (.mv (.t 15)) 131,
                 oT 133 (.mv (.t 12)) 131,
                 oT 134 (.bin .gtr (.t 132) (.t 133)) 131,
                 oT 135 (.mv (.t 134)) 131,
                 oF 136 (.mv (.t 15)) 135,
                 oF 137 (.mv (.t 12)) 135,
                 oF 138 (.bin .eql (.t 136) (.t 137)) 135,
                 oF 139 (.mv (.t 138)) 135,
                 oT 140 (.mv (.t 15)) 139,
                 oT 141 (.bin .gtr (.t 140) (cI 0)) 139,
                 oF 142 (.pick (.t 139) (.t 141) (cB false)) 135,
                 oF 143 (.mv (.t 142)) 135,
                 oT 144 (.load (some 4) (.t 14)) 143,
                 oT 145 (.load (some 4) (.t 13)) 143,
                 oT 146 (.call (.f 69) [(.t 144), (.t 145)]) 143,
                 oF 147 (.pick (.t 143) (.t 146) (cB false)) 135,
                 oT 148 (.pick (.t 135) (cB true) (.t 147)) 131,
                 o1 149 (.pick (.t 131) (.t 148) (cB false))])
                (.cond (.t 149) (.reg [o1 150 (.load (some 4) (.t 14)),
                  o1 151 (.mv (.t 15)),
                  o0 (.store 4 (.t 13) (.t 150)),
                  o1 12 (.mv (.t 151))]) (.skip)))))))))))
       (.seq (.reg [o1 152 (.load (some 4) (.t 13)),
         o1 153 (.mv (.t 12)),
         o0 (.store 4 (.t 2) (.t 152)),
         o1 3 (.mv (.t 153))])
        (.ret)))))))
theorem s47_ok : lookF Try.prog 47 = some (s47, 154, [.cell 2 (some 4), .tmp 3]) := by kernel_rfl
set_option maxHeartbeats 8000000 in
theorem rBest0_ok (ls : List Lesson) (h : OkLs ls) (hs : SmW ls) : Fn P 47 [sl ls] (bcA (bestL ls)) := by
  have hls := h.1
  (refine fn_look s47_ok (by simp) (by intro k; simp only [go_sem, Nat.reduceEqDiff, ↓reduceIte, reduceCtorEq, Nat.reduceAdd, Nat.reduceMul, Int.reduceToNat, List.reduceReplicate, Nat.reduceLeDiff, Nat.reduceLT, Int.reduceLT, Int.reduceLE, Int.reduceEq]) fun S hS => cwp_sound _ _ _ _ ?_; simp (maxSteps := 900000) (disch := omega) only [s47, go_sem, Nat.reduceEqDiff, ↓reduceIte, reduceCtorEq, Nat.reduceAdd, Nat.reduceMul, Int.reduceToNat, List.reduceReplicate, Nat.reduceLeDiff, Nat.reduceLT, Int.reduceLT, Int.reduceLE, Int.reduceEq])
  repeat' (first | with_reducible refine inw ?_ | simp (maxSteps := 900000) (disch := omega) only [go_sem, Nat.reduceEqDiff, ↓reduceIte, reduceCtorEq, Nat.reduceAdd, Nat.reduceMul, Int.reduceToNat, List.reduceReplicate, Nat.reduceLeDiff, Nat.reduceLT, Int.reduceLT, Int.reduceLE, Int.reduceEq] | with_reducible refine giv_intro fun _h => ?_ | with_reducible refine alt_intro ?_ fun _h => ?_ | with_reducible refine pickD_nil ?_ | (with_reducible refine brc (fun _h => ?_) fun _h => ?_) <;> first | (exfalso; omega) | simp only [decide_eq_false _h] | simp only [(_h : (_ : Bool) = _)] | simp only [decide_eq_true _h] | skip)
  (refine loopC hS [0, 2, 4, 5] (by simp only [go_sem, Nat.reduceEqDiff, ↓reduceIte, reduceCtorEq, Nat.reduceAdd, Nat.reduceMul, Int.reduceToNat, List.reduceReplicate, Nat.reduceLeDiff, Nat.reduceLT, Int.reduceLT, Int.reduceLE, Int.reduceEq]; try rfl) (fun (i : Nat) => [(6, intA i)]) (fun (i : Nat) => [some (Ob.row 32 4 [strA ⟨#[]⟩, strA ⟨#[]⟩, intA 0, strA ⟨#[]⟩]), mpO (incs [] (gLs ls i)), mpO (incs [] (bLs ls i))]) (fun (i : Nat) => i ≤ ls.length) (fun (i : Nat) => ls.length - i) (0) ?h01 ?hn1 ?rd1; case hn1 => (intro s; first | rfl | (rcases s with ⟨_, _⟩; rfl) | (rcases s with ⟨_, _, _⟩; rfl) | (rcases s with ⟨_, _, _, _⟩; rfl) | (rcases s with ⟨_, _, _, _, _⟩; rfl)))
  · simp (maxSteps := 900000) (disch := omega) only [go_sem, Nat.reduceEqDiff, ↓reduceIte, reduceCtorEq, Nat.reduceAdd, Nat.reduceMul, Int.reduceToNat, List.reduceReplicate, Nat.reduceLeDiff, Nat.reduceLT, Int.reduceLT, Int.reduceLE, Int.reduceEq]; simp [gLs, bLs, incs, mapC]
  rintro i hi
  replace hi : i ≤ ls.length := hi
  by_cases hil : i < ls.length
  · obtain ⟨g1, g2, g3⟩ := h.2 _ (nth_mem hil)
    have eg : gLs ls (i + 1) = gLs ls i ++ gX (nth ls i) (nth ls i).2.1.length := range_flat _ _
    have eb : bLs ls (i + 1) = bLs ls i ++ bX (nth ls i) (nth ls i).2.1.length := range_flat _ _
    have lg := gL_len h hi
    have lb := bL_len h hi
    generalize gLs ls i = ga at *
    generalize bLs ls i = ba at *
    repeat' (first | with_reducible refine inw ?_ | simp (maxSteps := 900000) (disch := omega) only [go_sem, Nat.reduceEqDiff, ↓reduceIte, reduceCtorEq, Nat.reduceAdd, Nat.reduceMul, Int.reduceToNat, List.reduceReplicate, Nat.reduceLeDiff, Nat.reduceLT, Int.reduceLT, Int.reduceLE, Int.reduceEq] | with_reducible refine giv_intro fun _h => ?_ | with_reducible refine alt_intro ?_ fun _h => ?_ | with_reducible refine pickD_nil ?_ | (with_reducible refine brc (fun _h => ?_) fun _h => ?_) <;> first | (exfalso; omega) | simp only [decide_eq_false _h] | simp only [(_h : (_ : Bool) = _)] | simp only [decide_eq_true _h] | skip)
    (refine loopC hS [0, 2, 4, 5, 6, 7] (by simp only [go_sem, Nat.reduceEqDiff, ↓reduceIte, reduceCtorEq, Nat.reduceAdd, Nat.reduceMul, Int.reduceToNat, List.reduceReplicate, Nat.reduceLeDiff, Nat.reduceLT, Int.reduceLT, Int.reduceLE, Int.reduceEq]; try rfl) (fun (k : Nat) => [(8, intA k)]) (fun (k : Nat) => [some (Ob.row 32 4 [strA ⟨#[]⟩, strA ⟨#[]⟩, intA 0, strA ⟨#[]⟩]), mpO (incs [] (ga ++ gX (nth ls i) k)), mpO (incs [] (ba ++ bX (nth ls i) k)), some (Ob.row 56 3 [sl (nth ls i).1, sl (nth ls i).2.1, sl (nth ls i).2.2])]) (fun (k : Nat) => k ≤ (nth ls i).2.1.length) (fun (k : Nat) => (nth ls i).2.1.length - k) (0) ?h02 ?hn2 ?rd2; case hn2 => (intro s; first | rfl | (rcases s with ⟨_, _⟩; rfl) | (rcases s with ⟨_, _, _⟩; rfl) | (rcases s with ⟨_, _, _, _⟩; rfl) | (rcases s with ⟨_, _, _, _, _⟩; rfl)))
    · simp (maxSteps := 900000) (disch := omega) only [go_sem, Nat.reduceEqDiff, ↓reduceIte, reduceCtorEq, Nat.reduceAdd, Nat.reduceMul, Int.reduceToNat, List.reduceReplicate, Nat.reduceLeDiff, Nat.reduceLT, Int.reduceLT, Int.reduceLE, Int.reduceEq]; simp [gX, bX]
    rintro k hk
    replace hk : k ≤ (nth ls i).2.1.length := hk
    by_cases hkl : k < (nth ls i).2.1.length
    · have eg2 : gX (nth ls i) (k + 1) = gX (nth ls i) k ++ gP (nth ls i) k 10 := range_flat _ _
      have eb2 : bX (nth ls i) (k + 1) = bX (nth ls i) k ++ bP (nth ls i) k 10 := range_flat _ _
      have lg2 := gX_len (nth ls i) k
      have lb2 := bX_len (nth ls i) k
      generalize gX (nth ls i) k = gb at *
      generalize bX (nth ls i) k = bb at *
      repeat' (first | with_reducible refine inw ?_ | simp (maxSteps := 900000) (disch := omega) only [go_sem, Nat.reduceEqDiff, ↓reduceIte, reduceCtorEq, Nat.reduceAdd, Nat.reduceMul, Int.reduceToNat, List.reduceReplicate, Nat.reduceLeDiff, Nat.reduceLT, Int.reduceLT, Int.reduceLE, Int.reduceEq] | with_reducible refine giv_intro fun _h => ?_ | with_reducible refine alt_intro ?_ fun _h => ?_ | with_reducible refine pickD_nil ?_ | (with_reducible refine brc (fun _h => ?_) fun _h => ?_) <;> first | (exfalso; omega) | simp only [decide_eq_false _h] | simp only [(_h : (_ : Bool) = _)] | simp only [decide_eq_true _h] | skip)
      (refine loopC hS [0, 2, 4, 5, 6, 7, 8] (by simp only [go_sem, Nat.reduceEqDiff, ↓reduceIte, reduceCtorEq, Nat.reduceAdd, Nat.reduceMul, Int.reduceToNat, List.reduceReplicate, Nat.reduceLeDiff, Nat.reduceLT, Int.reduceLT, Int.reduceLE, Int.reduceEq]; try rfl) (fun (q : Nat) => [(9, intA q)]) (fun (q : Nat) => [some (Ob.row 32 4 [strA ⟨#[]⟩, strA ⟨#[]⟩, intA 0, strA ⟨#[]⟩]), mpO (incs [] (ga ++ gb ++ gP (nth ls i) k q)), mpO (incs [] (ba ++ bb ++ bP (nth ls i) k q)), some (Ob.row 56 3 [sl (nth ls i).1, sl (nth ls i).2.1, sl (nth ls i).2.2])]) (fun (q : Nat) => q ≤ 10) (fun (q : Nat) => 10 - q) (0) ?h03 ?hn3 ?rd3; case hn3 => (intro s; first | rfl | (rcases s with ⟨_, _⟩; rfl) | (rcases s with ⟨_, _, _⟩; rfl) | (rcases s with ⟨_, _, _, _⟩; rfl) | (rcases s with ⟨_, _, _, _, _⟩; rfl)))
      · simp (maxSteps := 900000) (disch := omega) only [go_sem, Nat.reduceEqDiff, ↓reduceIte, reduceCtorEq, Nat.reduceAdd, Nat.reduceMul, Int.reduceToNat, List.reduceReplicate, Nat.reduceLeDiff, Nat.reduceLT, Int.reduceLT, Int.reduceLE, Int.reduceEq]; simp [gP, bP]
      rintro q hq
      replace hq : q ≤ 10 := hq
      have lg3 := gP_len (nth ls i) k q
      have lb3 := bP_len (nth ls i) k q
      by_cases hql : q < 10
      · have c1 := args_ok q (nth ls i).1 (nth ls i).2.1 k (by omega) (by omega)
        have l2 := args_len q (nth ls i).1 (nth ls i).2.1 k
        have eg3 : gP (nth ls i) k (q + 1) = gP (nth ls i) k q ++ if nth (nth ls i).2.1 k = nth (nth ls i).2.2 k then [] else gAt (nth ls i) k q := by
          rw [gP, gP, range_flat]; split <;> simp
        have eb3 : bP (nth ls i) k (q + 1) = bP (nth ls i) k q ++ if nth (nth ls i).2.1 k = nth (nth ls i).2.2 k then bAt (nth ls i) k q else [] := by
          rw [bP, bP, range_flat]; split <;> simp
        have hg := fun j => nth_gAt (x := nth ls i) (k := k) (kind := q) (j := j)
        have hb := fun j => nth_bAt (x := nth ls i) (k := k) (kind := q) (j := j)
        have fg : (gAt (nth ls i) k q).length = (argsL q (nth ls i).1 (nth ls i).2.1 k).length := by rw [gAt, List.length_map]
        have fb : (bAt (nth ls i) k q).length = (argsL q (nth ls i).1 (nth ls i).2.1 k).length := by rw [bAt, List.length_map]
        generalize gAt (nth ls i) k q = gv at *
        generalize bAt (nth ls i) k q = bv at *
        generalize gP (nth ls i) k q = gc at *
        generalize bP (nth ls i) k q = bc at *
        generalize argsL q (nth ls i).1 (nth ls i).2.1 k = g at *
        repeat' (first | with_reducible refine inw ?_ | simp (maxSteps := 900000) (disch := omega) only [go_sem, Nat.reduceEqDiff, ↓reduceIte, reduceCtorEq, Nat.reduceAdd, Nat.reduceMul, Int.reduceToNat, List.reduceReplicate, Nat.reduceLeDiff, Nat.reduceLT, Int.reduceLT, Int.reduceLE, Int.reduceEq] | (with_reducible apply call (c1)); (focus simp (maxSteps := 900000) (disch := omega) only [go_sem, Nat.reduceEqDiff, ↓reduceIte, reduceCtorEq, Nat.reduceAdd, Nat.reduceMul, Int.reduceToNat, List.reduceReplicate, Nat.reduceLeDiff, Nat.reduceLT, Int.reduceLT, Int.reduceLE, Int.reduceEq] <;> rfl) | with_reducible refine giv_intro fun _h => ?_ | with_reducible refine alt_intro ?_ fun _h => ?_ | with_reducible refine pickD_nil ?_ | (with_reducible refine brc (fun _h => ?_) fun _h => ?_) <;> first | (exfalso; omega) | simp only [decide_eq_false _h] | simp only [(_h : (_ : Bool) = _)] | simp only [decide_eq_true _h] | skip)
        by_cases ht : nth (nth ls i).2.1 k = nth (nth ls i).2.2 k
        · rw [if_pos ht] at eg3 eb3
          (refine loopC hS [0, 2, 4, 5, 6, 7, 8, 9, 10] (by simp only [go_sem, Nat.reduceEqDiff, ↓reduceIte, reduceCtorEq, Nat.reduceAdd, Nat.reduceMul, Int.reduceToNat, List.reduceReplicate, Nat.reduceLeDiff, Nat.reduceLT, Int.reduceLT, Int.reduceLE, Int.reduceEq]; try rfl) (fun (j : Nat) => [(11, intA j)]) (fun (j : Nat) => [some (Ob.row 32 4 [strA ⟨#[]⟩, strA ⟨#[]⟩, intA 0, strA ⟨#[]⟩]), mpO (incs [] (ga ++ gb ++ gc)), mpO (incs [] (ba ++ bb ++ bc ++ bv.take j)), some (Ob.row 56 3 [sl (nth ls i).1, sl (nth ls i).2.1, sl (nth ls i).2.2])]) (fun (j : Nat) => j ≤ g.length) (fun (j : Nat) => g.length - j) (0) ?h04 ?hn4 ?rd4; case hn4 => (intro s; first | rfl | (rcases s with ⟨_, _⟩; rfl) | (rcases s with ⟨_, _, _⟩; rfl) | (rcases s with ⟨_, _, _, _⟩; rfl) | (rcases s with ⟨_, _, _, _, _⟩; rfl)))
          · simp (maxSteps := 900000) (disch := omega) only [go_sem, Nat.reduceEqDiff, ↓reduceIte, reduceCtorEq, Nat.reduceAdd, Nat.reduceMul, Int.reduceToNat, List.reduceReplicate, Nat.reduceLeDiff, Nat.reduceLT, Int.reduceLT, Int.reduceLE, Int.reduceEq]; simp
          rintro j hj
          replace hj : j ≤ g.length := hj
          by_cases hjl : j < g.length
          · have e4 := hb j hjl
            have b4 := incs_le (ba ++ bb ++ bc ++ bv.take j) (nth (nth ls i).2.1 k, (q : Int), nth g j)
            simp only [List.length_append, List.length_take] at b4
            repeat' (first | with_reducible refine inw ?_ | simp (maxSteps := 900000) (disch := omega) only [go_sem, Nat.reduceEqDiff, ↓reduceIte, reduceCtorEq, Nat.reduceAdd, Nat.reduceMul, Int.reduceToNat, List.reduceReplicate, Nat.reduceLeDiff, Nat.reduceLT, Int.reduceLT, Int.reduceLE, Int.reduceEq] | with_reducible refine pickD_at [(S.nm 2, some (.iter (.mapz (.flds [.str, .int .i64, .str]) (.int .i64 0) (mapC (incs [] (ba ++ bb ++ bc ++ bv.take j))))))] ?_ | with_reducible refine giv_intro fun _h => ?_ | with_reducible refine alt_intro ?_ fun _h => ?_ | with_reducible refine pickD_nil ?_ | (with_reducible refine brc (fun _h => ?_) fun _h => ?_) <;> first | (exfalso; omega) | simp only [decide_eq_false _h] | simp only [(_h : (_ : Bool) = _)] | simp only [decide_eq_true _h] | skip)
            · exact ⟨j + 1, ⟨by omega, by omega⟩, by omega, by rw [e4, ← List.append_assoc, incs_snoc]; rfl⟩
            · exact absurd ht _h
          · repeat' (first | with_reducible refine inw ?_ | simp (maxSteps := 900000) (disch := omega) only [go_sem, Nat.reduceEqDiff, ↓reduceIte, reduceCtorEq, Nat.reduceAdd, Nat.reduceMul, Int.reduceToNat, List.reduceReplicate, Nat.reduceLeDiff, Nat.reduceLT, Int.reduceLT, Int.reduceLE, Int.reduceEq] | with_reducible refine giv_intro fun _h => ?_ | with_reducible refine alt_intro ?_ fun _h => ?_ | with_reducible refine pickD_nil ?_ | (with_reducible refine brc (fun _h => ?_) fun _h => ?_) <;> first | (exfalso; omega) | simp only [decide_eq_false _h] | simp only [(_h : (_ : Bool) = _)] | simp only [decide_eq_true _h] | skip)
            exact ⟨q + 1, ⟨by omega, by omega⟩, by omega, by rw [eg3, List.append_nil], by rw [eb3, List.take_of_length_le (by omega), ← List.append_assoc]⟩
        · rw [if_neg ht] at eg3 eb3
          (refine loopC hS [0, 2, 4, 5, 6, 7, 8, 9, 10] (by simp only [go_sem, Nat.reduceEqDiff, ↓reduceIte, reduceCtorEq, Nat.reduceAdd, Nat.reduceMul, Int.reduceToNat, List.reduceReplicate, Nat.reduceLeDiff, Nat.reduceLT, Int.reduceLT, Int.reduceLE, Int.reduceEq]; try rfl) (fun (j : Nat) => [(11, intA j)]) (fun (j : Nat) => [some (Ob.row 32 4 [strA ⟨#[]⟩, strA ⟨#[]⟩, intA 0, strA ⟨#[]⟩]), mpO (incs [] (ga ++ gb ++ gc ++ gv.take j)), mpO (incs [] (ba ++ bb ++ bc)), some (Ob.row 56 3 [sl (nth ls i).1, sl (nth ls i).2.1, sl (nth ls i).2.2])]) (fun (j : Nat) => j ≤ g.length) (fun (j : Nat) => g.length - j) (0) ?h05 ?hn5 ?rd5; case hn5 => (intro s; first | rfl | (rcases s with ⟨_, _⟩; rfl) | (rcases s with ⟨_, _, _⟩; rfl) | (rcases s with ⟨_, _, _, _⟩; rfl) | (rcases s with ⟨_, _, _, _, _⟩; rfl)))
          · simp (maxSteps := 900000) (disch := omega) only [go_sem, Nat.reduceEqDiff, ↓reduceIte, reduceCtorEq, Nat.reduceAdd, Nat.reduceMul, Int.reduceToNat, List.reduceReplicate, Nat.reduceLeDiff, Nat.reduceLT, Int.reduceLT, Int.reduceLE, Int.reduceEq]; simp
          rintro j hj
          replace hj : j ≤ g.length := hj
          by_cases hjl : j < g.length
          · have e4 := hg j hjl
            have b4 := incs_le (ga ++ gb ++ gc ++ gv.take j) (nth (nth ls i).2.1 k, nth (nth ls i).2.2 k, (q : Int), nth g j)
            simp only [List.length_append, List.length_take] at b4
            repeat' (first | with_reducible refine inw ?_ | simp (maxSteps := 900000) (disch := omega) only [go_sem, Nat.reduceEqDiff, ↓reduceIte, reduceCtorEq, Nat.reduceAdd, Nat.reduceMul, Int.reduceToNat, List.reduceReplicate, Nat.reduceLeDiff, Nat.reduceLT, Int.reduceLT, Int.reduceLE, Int.reduceEq] | with_reducible refine pickD_at [(S.nm 1, some (.iter (.mapz (.flds [.str, .str, .int .i64, .str]) (.int .i64 0) (mapC (incs [] (ga ++ gb ++ gc ++ gv.take j))))))] ?_ | with_reducible refine giv_intro fun _h => ?_ | with_reducible refine alt_intro ?_ fun _h => ?_ | with_reducible refine pickD_nil ?_ | (with_reducible refine brc (fun _h => ?_) fun _h => ?_) <;> first | (exfalso; omega) | simp only [decide_eq_false _h] | simp only [(_h : (_ : Bool) = _)] | simp only [decide_eq_true _h] | skip)
            · exact absurd _h ht
            · exact ⟨j + 1, ⟨by omega, by omega⟩, by omega, by rw [e4, ← List.append_assoc, incs_snoc]; rfl⟩
          · repeat' (first | with_reducible refine inw ?_ | simp (maxSteps := 900000) (disch := omega) only [go_sem, Nat.reduceEqDiff, ↓reduceIte, reduceCtorEq, Nat.reduceAdd, Nat.reduceMul, Int.reduceToNat, List.reduceReplicate, Nat.reduceLeDiff, Nat.reduceLT, Int.reduceLT, Int.reduceLE, Int.reduceEq] | with_reducible refine giv_intro fun _h => ?_ | with_reducible refine alt_intro ?_ fun _h => ?_ | with_reducible refine pickD_nil ?_ | (with_reducible refine brc (fun _h => ?_) fun _h => ?_) <;> first | (exfalso; omega) | simp only [decide_eq_false _h] | simp only [(_h : (_ : Bool) = _)] | simp only [decide_eq_true _h] | skip)
            exact ⟨q + 1, ⟨by omega, by omega⟩, by omega, by rw [eg3, List.take_of_length_le (by omega), ← List.append_assoc], by rw [eb3, List.append_nil]⟩
      · have : q = 10 := by omega
        subst this
        repeat' (first | with_reducible refine inw ?_ | simp (maxSteps := 900000) (disch := omega) only [go_sem, Nat.reduceEqDiff, ↓reduceIte, reduceCtorEq, Nat.reduceAdd, Nat.reduceMul, Int.reduceToNat, List.reduceReplicate, Nat.reduceLeDiff, Nat.reduceLT, Int.reduceLT, Int.reduceLE, Int.reduceEq] | with_reducible refine giv_intro fun _h => ?_ | with_reducible refine alt_intro ?_ fun _h => ?_ | with_reducible refine pickD_nil ?_ | (with_reducible refine brc (fun _h => ?_) fun _h => ?_) <;> first | (exfalso; omega) | simp only [decide_eq_false _h] | simp only [(_h : (_ : Bool) = _)] | simp only [decide_eq_true _h] | skip)
        exact ⟨k + 1, ⟨by omega, by omega⟩, by omega, by rw [eg2, ← List.append_assoc], by rw [eb2, ← List.append_assoc]⟩
    · have : k = (nth ls i).2.1.length := by omega
      subst this
      repeat' (first | with_reducible refine inw ?_ | simp (maxSteps := 900000) (disch := omega) only [go_sem, Nat.reduceEqDiff, ↓reduceIte, reduceCtorEq, Nat.reduceAdd, Nat.reduceMul, Int.reduceToNat, List.reduceReplicate, Nat.reduceLeDiff, Nat.reduceLT, Int.reduceLT, Int.reduceLE, Int.reduceEq] | with_reducible refine giv_intro fun _h => ?_ | with_reducible refine alt_intro ?_ fun _h => ?_ | with_reducible refine pickD_nil ?_ | (with_reducible refine brc (fun _h => ?_) fun _h => ?_) <;> first | (exfalso; omega) | simp only [decide_eq_false _h] | simp only [(_h : (_ : Bool) = _)] | simp only [decide_eq_true _h] | skip)
      exact ⟨i + 1, ⟨by omega, by omega⟩, by omega, by rw [eg], by rw [eb]⟩
  · have : i = ls.length := by omega
    subst this
    have hlen := gL_len h (Nat.le_refl _)
    have hlenb := bL_len h (Nat.le_refl _)
    have hu0 : keysU (incs [] (gLs ls ls.length)) := keysU_incs _ List.nodup_nil
    have hb0 : BestIn (fun c => gainL c ls) (bestS ls (incs [] (gLs ls ls.length)) (incs [] (gLs ls ls.length))) (dfC, 0) := best_nil _ fun c hc => by
      obtain ⟨_, h1, h2⟩ := hc; rw [h2] at h1; cases h1
    have fin : ∀ r, BestIn (fun c => gainL c ls) (bestS ls (incs [] (gLs ls ls.length)) []) r → r = bestL ls := fun r hb => best_eq (best_mono hb (fun x hx => hx.1) fun x hx => by
      cases hg : getM (incs [] (gLs ls ls.length)) x with
      | some v => left; exact ⟨hx, by rw [hg]; rfl, rfl⟩
      | none =>
        right
        rw [getM_incs, count_gL hx] at hg
        split at hg
        · have := gain_le_hits (c := x) h
          have e : hits x ls = 0 := by assumption
          omega
        · cases hg)
    have hval : ∀ c v, getM (incs [] (gLs ls ls.length)) c = some v → v = cntK (gLs ls ls.length) c ∧ c ∈ gLs ls ls.length := fun c v hv => by
      rw [getM_incs] at hv
      split at hv
      · cases hv
      · rename_i hne
        simp only [getM, Option.getD_none, Int.zero_add, Option.some.injEq] at hv
        exact ⟨hv.symm, by by_cases hm : c ∈ gLs ls ls.length; exact hm; exact absurd (cntK_zero.2 hm) hne⟩
    have hgain : ∀ c v, getM (incs [] (gLs ls ls.length)) c = some v → Cand c → gainL c ls = v - (getM (incs [] (bLs ls ls.length)) (c.1, c.2.2.1, c.2.2.2)).getD 0 := fun c v hv hc => by
      obtain ⟨e1, e2⟩ := hval c v hv
      have e3 : (getM (incs [] (bLs ls ls.length)) (c.1, c.2.2.1, c.2.2.2)).getD 0 = (losts c ls : Int) := by
        rw [getM_incs, count_bL hc]
        split
        · rename_i e; simp only [losts, e, getM]; rfl
        · simp [getM]
      have e4 : cntK (gLs ls ls.length) c = hits c ls := count_gL hc ls _
      have e5 : cntK (gLs ls ls.length) c ≠ 0 := fun q => (cntK_zero.1 q) e2
      rw [gain_hits h (hits_ne (ls := ls) (i := ls.length) (by rw [e4] at e5; exact e5)), e3, e1, e4]
    repeat' (first | simp (maxSteps := 900000) (disch := omega) only [go_sem, Nat.reduceEqDiff, ↓reduceIte, reduceCtorEq, Nat.reduceAdd, Nat.reduceMul, Int.reduceToNat, List.reduceReplicate, Nat.reduceLeDiff, Nat.reduceLT, Int.reduceLT, Int.reduceLE, Int.reduceEq] | with_reducible refine giv_intro fun _h => ?_ | with_reducible refine alt_intro ?_ fun _h => ?_ | with_reducible refine pickD_nil ?_ | (with_reducible refine brc (fun _h => ?_) fun _h => ?_) <;> first | (exfalso; omega) | simp only [decide_eq_false _h] | simp only [(_h : (_ : Bool) = _)] | simp only [decide_eq_true _h] | skip)
    refine freezeM 4 1 (incs [] (gLs ls ls.length)) (by simp (maxSteps := 900000) (disch := omega) only [go_sem, Nat.reduceEqDiff, ↓reduceIte, reduceCtorEq, Nat.reduceAdd, Nat.reduceMul, Int.reduceToNat, List.reduceReplicate, Nat.reduceLeDiff, Nat.reduceLT, Int.reduceLT, Int.reduceLE, Int.reduceEq]) (by simp (maxSteps := 900000) (disch := omega) only [go_sem, Nat.reduceEqDiff, ↓reduceIte, reduceCtorEq, Nat.reduceAdd, Nat.reduceMul, Int.reduceToNat, List.reduceReplicate, Nat.reduceLeDiff, Nat.reduceLT, Int.reduceLT, Int.reduceLE, Int.reduceEq]) (by simp) ?_
    simp only [List.set_cons_succ, List.set_cons_zero]
    repeat' (first | with_reducible refine inw ?_ | simp (maxSteps := 900000) (disch := omega) only [go_sem, Nat.reduceEqDiff, ↓reduceIte, reduceCtorEq, Nat.reduceAdd, Nat.reduceMul, Int.reduceToNat, List.reduceReplicate, Nat.reduceLeDiff, Nat.reduceLT, Int.reduceLT, Int.reduceLE, Int.reduceEq] | with_reducible refine giv_intro fun _h => ?_ | with_reducible refine alt_intro ?_ fun _h => ?_ | with_reducible refine pickD_nil ?_ | (with_reducible refine brc (fun _h => ?_) fun _h => ?_) <;> first | (exfalso; omega) | simp only [decide_eq_false _h] | simp only [(_h : (_ : Bool) = _)] | simp only [decide_eq_true _h] | skip)
    (refine loopC hS [2, 5, 13, 101] (by simp only [go_sem, Nat.reduceEqDiff, ↓reduceIte, reduceCtorEq, Nat.reduceAdd, Nat.reduceMul, Int.reduceToNat, List.reduceReplicate, Nat.reduceLeDiff, Nat.reduceLT, Int.reduceLT, Int.reduceLE, Int.reduceEq]; try rfl) (fun (⟨cur, left, r⟩ : Option (Change × Int) × List (Change × Int) × Change × Int) => [(12, intA r.2)]) (fun (⟨cur, left, r⟩ : Option (Change × Int) × List (Change × Int) × Change × Int) => [some (Ob.row 32 4 [strA ⟨#[]⟩, strA ⟨#[]⟩, intA 0, strA ⟨#[]⟩]), none, mpO (incs [] (bLs ls ls.length)), some (Ob.row 32 4 [strA r.1.1, strA r.1.2.1, intA r.1.2.2.1, strA r.1.2.2.2]), itO cur left]) (fun (⟨cur, left, r⟩ : Option (Change × Int) × List (Change × Int) × Change × Int) => keysU left ∧ (∀ c v, getM left c = some v → getM (incs [] (gLs ls ls.length)) c = some v) ∧ BestIn (fun c => gainL c ls) (bestS ls (incs [] (gLs ls ls.length)) left) r) (fun (⟨cur, left, r⟩ : Option (Change × Int) × List (Change × Int) × Change × Int) => left.length) ((none, incs [] (gLs ls ls.length), dfC, 0)) ?h06 ?hn6 ?rd6; case hn6 => (intro s; first | rfl | (rcases s with ⟨_, _⟩; rfl) | (rcases s with ⟨_, _, _⟩; rfl) | (rcases s with ⟨_, _, _, _⟩; rfl) | (rcases s with ⟨_, _, _, _, _⟩; rfl)))
    · simp (maxSteps := 900000) (disch := omega) only [go_sem, Nat.reduceEqDiff, ↓reduceIte, reduceCtorEq, Nat.reduceAdd, Nat.reduceMul, Int.reduceToNat, List.reduceReplicate, Nat.reduceLeDiff, Nat.reduceLT, Int.reduceLT, Int.reduceLE, Int.reduceEq]
      exact ⟨⟨hu0, fun c v hv => hv, hb0⟩, rfl, rfl⟩
    rintro ⟨cur, left, r⟩ ⟨hu, hsub, hb⟩
    repeat' (first | with_reducible refine inw ?_ | simp (maxSteps := 900000) (disch := omega) only [go_sem, Nat.reduceEqDiff, ↓reduceIte, reduceCtorEq, Nat.reduceAdd, Nat.reduceMul, Int.reduceToNat, List.reduceReplicate, Nat.reduceLeDiff, Nat.reduceLT, Int.reduceLT, Int.reduceLE, Int.reduceEq] | with_reducible refine giv_intro fun _h => ?_ | with_reducible refine alt_intro ?_ fun _h => ?_ | with_reducible refine pickD_nil ?_ | (with_reducible refine brc (fun _h => ?_) fun _h => ?_) <;> first | (exfalso; omega) | simp only [decide_eq_false _h] | simp only [(_h : (_ : Bool) = _)] | simp only [decide_eq_true _h] | skip)
    refine next_intro (fun hl0 => ?_) fun i hi => ?_
    · subst hl0
      have e := fin r hb
      repeat' (first | with_reducible refine inw ?_ | simp (maxSteps := 900000) (disch := omega) only [go_sem, Nat.reduceEqDiff, ↓reduceIte, reduceCtorEq, Nat.reduceAdd, Nat.reduceMul, Int.reduceToNat, List.reduceReplicate, Nat.reduceLeDiff, Nat.reduceLT, Int.reduceLT, Int.reduceLE, Int.reduceEq] | with_reducible refine giv_intro fun _h => ?_ | with_reducible refine alt_intro ?_ fun _h => ?_ | with_reducible refine pickD_nil ?_ | (with_reducible refine brc (fun _h => ?_) fun _h => ?_) <;> first | (exfalso; omega) | simp only [decide_eq_false _h] | simp only [(_h : (_ : Bool) = _)] | simp only [decide_eq_true _h] | skip)
      rw [← e]
    · have k1 := getM_get hu hi
      have k2 := hsub _ _ k1
      obtain ⟨v1, v2⟩ := hval _ _ k2
      have v3 := cntK_le (gLs ls ls.length) left[i].1
      obtain ⟨a1, a2, a3, a4⟩ := sm_arg hs (Nat.le_refl _) v2
      have b4 := incs_le (bLs ls ls.length) (left[i].1.1, left[i].1.2.2.1, left[i].1.2.2.2)
      have hg := hgain _ _ k2
      have c1 := isSigned_ok left[i].1.2.2.2 a2
      have c2 := isAhead_ok left[i].1 r.1
      have hlt : (left.eraseIdx i).length < left.length := by rw [List.length_eraseIdx_of_lt hi]; omega
      have hsub2 : ∀ c v, getM (left.eraseIdx i) c = some v → getM (incs [] (gLs ls ls.length)) c = some v := fun c v hv => by
        rw [getM_erase hu hi] at hv
        split at hv
        · cases hv
        · exact hsub _ _ hv
      have take : Cand left[i].1 → (left[i].2 - (getM (incs [] (bLs ls ls.length)) (left[i].1.1, left[i].1.2.2.1, left[i].1.2.2.2)).getD 0 > r.2 ∨ (left[i].2 - (getM (incs [] (bLs ls ls.length)) (left[i].1.1, left[i].1.2.2.1, left[i].1.2.2.2)).getD 0 = r.2 ∧ 0 < left[i].2 - (getM (incs [] (bLs ls ls.length)) (left[i].1.1, left[i].1.2.2.1, left[i].1.2.2.2)).getD 0 ∧ aheadB left[i].1 r.1 = true)) → (left.eraseIdx i).length < left.length ∧ keysU (left.eraseIdx i) ∧ (∀ c v, getM (left.eraseIdx i) c = some v → getM (incs [] (gLs ls ls.length)) c = some v) ∧ BestIn (fun c => gainL c ls) (bestS ls (incs [] (gLs ls ls.length)) (left.eraseIdx i)) (left[i].1, left[i].2 - (getM (incs [] (bLs ls ls.length)) (left[i].1.1, left[i].1.2.2.1, left[i].1.2.2.2)).getD 0) := fun hc hq => by
        rw [← hg hc] at hq ⊢
        exact ⟨hlt, keysU_erase hu i, hsub2, best_step (g := fun c => gainL c ls) hb (bestS_step hu hsub hi hc) hq⟩
      have skip : (Cand left[i].1 → left[i].2 - (getM (incs [] (bLs ls ls.length)) (left[i].1.1, left[i].1.2.2.1, left[i].1.2.2.2)).getD 0 ≤ r.2 ∧ (left[i].2 - (getM (incs [] (bLs ls ls.length)) (left[i].1.1, left[i].1.2.2.1, left[i].1.2.2.2)).getD 0 = r.2 → 0 < left[i].2 - (getM (incs [] (bLs ls ls.length)) (left[i].1.1, left[i].1.2.2.1, left[i].1.2.2.2)).getD 0 → aheadB left[i].1 r.1 = false)) → (left.eraseIdx i).length < left.length ∧ keysU (left.eraseIdx i) ∧ (∀ c v, getM (left.eraseIdx i) c = some v → getM (incs [] (gLs ls ls.length)) c = some v) ∧ BestIn (fun c => gainL c ls) (bestS ls (incs [] (gLs ls ls.length)) (left.eraseIdx i)) r := fun hq => by
        refine ⟨hlt, keysU_erase hu i, hsub2, ?_⟩
        by_cases hc : Cand left[i].1
        · obtain ⟨q1, q2⟩ := hq hc
          rw [← hg hc] at q1 q2
          exact best_skip (g := fun c => gainL c ls) hb (bestS_step hu hsub hi hc) q1 q2
        · exact best_mono hb (fun x hx => (bestS_skip hu hi hc x).2 hx) fun x hx => .inl ((bestS_skip hu hi hc x).1 hx)
      repeat' (first | with_reducible refine inw ?_ | simp (maxSteps := 900000) (disch := omega) only [go_sem, Nat.reduceEqDiff, ↓reduceIte, reduceCtorEq, Nat.reduceAdd, Nat.reduceMul, Int.reduceToNat, List.reduceReplicate, Nat.reduceLeDiff, Nat.reduceLT, Int.reduceLT, Int.reduceLE, Int.reduceEq] | (with_reducible apply call (c1)); (focus simp (maxSteps := 900000) (disch := omega) only [go_sem, Nat.reduceEqDiff, ↓reduceIte, reduceCtorEq, Nat.reduceAdd, Nat.reduceMul, Int.reduceToNat, List.reduceReplicate, Nat.reduceLeDiff, Nat.reduceLT, Int.reduceLT, Int.reduceLE, Int.reduceEq] <;> rfl) | (with_reducible apply call (c2)); (focus simp (maxSteps := 900000) (disch := omega) only [go_sem, Nat.reduceEqDiff, ↓reduceIte, reduceCtorEq, Nat.reduceAdd, Nat.reduceMul, Int.reduceToNat, List.reduceReplicate, Nat.reduceLeDiff, Nat.reduceLT, Int.reduceLT, Int.reduceLE, Int.reduceEq] <;> rfl) | with_reducible refine giv_intro fun _h => ?_ | with_reducible refine alt_intro ?_ fun _h => ?_ | with_reducible refine pickD_nil ?_ | (with_reducible refine brc (fun _h => ?_) fun _h => ?_) <;> first | (exfalso; omega) | simp only [decide_eq_false _h] | simp only [(_h : (_ : Bool) = _)] | simp only [decide_eq_true _h] | skip)
      all_goals first
        | exact ⟨(some left[i], left.eraseIdx i, left[i].1, _), take ⟨a1, by first | exact a3 (by omega) | (rw [a4 (by omega)]; assumption)⟩ (by first | exact .inl (by omega) | exact .inr ⟨by omega, by omega, by assumption⟩), rfl, rfl, rfl, rfl⟩
        | exact ⟨(some left[i], left.eraseIdx i, r), skip (fun hc => by
            first
              | exact ⟨by omega, fun e1 e2 => by first | assumption | (exfalso; omega)⟩
              | (exfalso; have q := hc.2; rw [a4 (by omega), (by assumption : plainB left[i].1.2.2.2 = false)] at q; cases q)), rfl, rfl, rfl, rfl⟩
end Go.Proofs.Ytapgimibdamjoaa.Ev

/- The law TallyUses: beads use both lists up, and cost what is told. -/
import Derived.Test.YtedbjmonfbpefaaZFnTh
import Derived.Test.YtedbjmonfbpefaaZFnTi
import Derived.Test.YtedbjmonfbpefaaZFnTc
set_option linter.unusedVariables false
set_option linter.unusedSimpArgs false
namespace Go.Proofs.Ytedbjmonfbpefaa.Ev
open Go Go.Proofs Go.RowKit

/-- ablaut/ablautlaw27.part: 3 parameters, 0 captured -/
def s29 : SC := .seq (.reg [o1 6 (.mv (cI 0))])
  (.seq (.reg [o1 7 (.mv (cI 0))])
   (.seq (.seq (.reg [o1 8 (.mv (cI 0))])
     (.block 0 (.loop (.seq (.seq (.reg [o1 9 (.mv (.t 8)),
          o1 10 (.mv (.t 2)),
          o1 11 (.bin .lss (.t 9) (.t 10))])
         (.cond (.t 11) (.skip) (.exit 0)))
        (.seq (.block 1 (.reg [o1 14 (.mv (.t 7)),
           o1 15 (.mv (.t 0)),
           o1 16 (.mv (.t 1)),
           o1 17 (.mv (.t 8)),
           o1 18 (.bin .add (.t 16) (.t 17)),
           o1 19 (.iaddr 1 (.t 15) (.t 18)),
           o1 20 (.load none (.t 19)),
           o1 21 (.bin .add (.t 14) (.t 20)),
           o1 7 (.mv (.t 21))]))
         (.reg [o1 12 (.mv (.t 8)),
          o1 13 (.bin .add (.t 12) (cI 1)),
          o1 8 (.mv (.t 13))]))))))
    (.seq (.reg [o1 22 (.mv (.t 7)),
      o1 6 (.mv (.t 22))])
     (.ret))))
theorem s29_ok : lookF Try.prog 29 = some (s29, 23, [.tmp 6]) := by kernel_rfl
theorem partW_ok (l : List Int) (h : ∀ x ∈ l, 0 ≤ x ∧ x ≤ 1000) (j n : Nat) (hl : l.length ≤ 200) (hj : j + n ≤ l.length) : Fn P 29 [sl l, intA j, intA n] (intA (totI ((l.drop j).take n))) := by
  (refine fn_look s29_ok (by simp) (by intro k; simp only [go_sem, Nat.reduceEqDiff, ↓reduceIte, reduceCtorEq, Nat.reduceAdd, Nat.reduceMul, Int.reduceToNat, List.reduceReplicate, Nat.reduceLeDiff, Nat.reduceLT, Int.reduceLT, Int.reduceLE, Int.reduceEq]) fun S hS => cwp_sound _ _ _ _ ?_; simp (maxSteps := 900000) (disch := omega) only [s29, go_sem, Nat.reduceEqDiff, ↓reduceIte, reduceCtorEq, Nat.reduceAdd, Nat.reduceMul, Int.reduceToNat, List.reduceReplicate, Nat.reduceLeDiff, Nat.reduceLT, Int.reduceLT, Int.reduceLE, Int.reduceEq])
  repeat' (first | with_reducible refine inw ?_ | simp (maxSteps := 900000) (disch := omega) only [go_sem, Nat.reduceEqDiff, ↓reduceIte, reduceCtorEq, Nat.reduceAdd, Nat.reduceMul, Int.reduceToNat, List.reduceReplicate, Nat.reduceLeDiff, Nat.reduceLT, Int.reduceLT, Int.reduceLE, Int.reduceEq] | with_reducible refine giv_intro fun _h => ?_ | with_reducible refine alt_intro ?_ fun _h => ?_ | with_reducible refine pickD_nil ?_ | (with_reducible refine brc (fun _h => ?_) fun _h => ?_) <;> first | (exfalso; omega) | simp only [decide_eq_false _h] | simp only [(_h : (_ : Bool) = _)] | simp only [decide_eq_true _h] | skip)
  (refine loopC hS [0, 1, 2] (by simp only [go_sem, Nat.reduceEqDiff, ↓reduceIte, reduceCtorEq, Nat.reduceAdd, Nat.reduceMul, Int.reduceToNat, List.reduceReplicate, Nat.reduceLeDiff, Nat.reduceLT, Int.reduceLT, Int.reduceLE, Int.reduceEq]; try rfl) (fun (i : Nat) => [(7, intA (totI ((l.drop j).take i))), (8, intA i)]) (fun (i : Nat) => []) (fun (i : Nat) => i ≤ n) (fun (i : Nat) => n - i) (0) ?h01 ?hn1 ?rd1; case hn1 => (intro s; first | rfl | (rcases s with ⟨_, _⟩; rfl) | (rcases s with ⟨_, _, _⟩; rfl) | (rcases s with ⟨_, _, _, _⟩; rfl) | (rcases s with ⟨_, _, _, _, _⟩; rfl)))
  · simp (maxSteps := 900000) (disch := omega) only [go_sem, Nat.reduceEqDiff, ↓reduceIte, reduceCtorEq, Nat.reduceAdd, Nat.reduceMul, Int.reduceToNat, List.reduceReplicate, Nat.reduceLeDiff, Nat.reduceLT, Int.reduceLT, Int.reduceLE, Int.reduceEq]; simp [totI]
  rintro i hi
  replace hi : i ≤ n := hi
  have hb := totI_le (l := (l.drop j).take i) fun x hx => h x (List.mem_of_mem_drop (List.mem_of_mem_take hx))
  rw [List.length_take] at hb
  by_cases hil : i < n
  · have hx := h _ (nth_mem (show j + i < l.length by omega))
    have hs := totI_step (l := l.drop j) (i := i) (by rw [List.length_drop]; omega)
    have hn : nth (l.drop j) i = nth l (j + i) := by rw [nth_eq (by rw [List.length_drop]; omega), nth_eq (by omega), List.getElem_drop]
    rw [hn] at hs
    have hin : ((j : Int) + i).toNat = j + i := by omega
    repeat' (first | with_reducible refine inw ?_ | simp (maxSteps := 900000) (disch := omega) only [go_sem, Nat.reduceEqDiff, ↓reduceIte, reduceCtorEq, Nat.reduceAdd, Nat.reduceMul, Int.reduceToNat, List.reduceReplicate, Nat.reduceLeDiff, Nat.reduceLT, Int.reduceLT, Int.reduceLE, Int.reduceEq, hin] | with_reducible refine giv_intro fun _h => ?_ | with_reducible refine alt_intro ?_ fun _h => ?_ | with_reducible refine pickD_nil ?_ | (with_reducible refine brc (fun _h => ?_) fun _h => ?_) <;> first | (exfalso; omega) | simp only [decide_eq_false _h] | simp only [(_h : (_ : Bool) = _)] | simp only [decide_eq_true _h] | skip)
    exact ⟨i + 1, ⟨by omega, by omega⟩, by omega, by omega⟩
  · obtain rfl : i = n := by omega
    repeat' (first | with_reducible refine inw ?_ | simp (maxSteps := 900000) (disch := omega) only [go_sem, Nat.reduceEqDiff, ↓reduceIte, reduceCtorEq, Nat.reduceAdd, Nat.reduceMul, Int.reduceToNat, List.reduceReplicate, Nat.reduceLeDiff, Nat.reduceLT, Int.reduceLT, Int.reduceLE, Int.reduceEq] | with_reducible refine giv_intro fun _h => ?_ | with_reducible refine alt_intro ?_ fun _h => ?_ | with_reducible refine pickD_nil ?_ | (with_reducible refine brc (fun _h => ?_) fun _h => ?_) <;> first | (exfalso; omega) | simp only [decide_eq_false _h] | simp only [(_h : (_ : Bool) = _)] | simp only [decide_eq_true _h] | skip)
/-- ablaut/ablautlaw27.TallyUses: 3 parameters, 0 captured -/
def s7 : SC := .seq (.reg [o1 6 (.mv (cB false))])
  (.seq (.seq (.reg [o1 18 (.mv (.t 0)),
     o1 19 (.lenL (.t 18)),
     o1 20 (.bin .gtr (.t 19) (cI 400000)),
     o1 21 (.mv (.t 20)),
     oF 22 (.mv (.t 1)) 21,
     oF 23 (.lenL (.t 22)) 21,
     oF 24 (.bin .gtr (.t 23) (cI 400000)) 21,
     o1 25 (.pick (.t 21) (cB true) (.t 24))])
    (.cond (.t 25) (.seq (.reg [o1 26 (.call (.f 17) []),
       o1 6 (.mv (.t 26))])
      (.ret)) (.skip)))
   (.seq (.reg [o1 28 (.mv (.t 0)),
     o1 29 (.mv (.t 1)),
     o1 30 (.mv (.t 2)),
     o1 31 (.call (.f 27) [(.t 28), (.t 29), (.t 30)]),
     o1 27 (.mv (.t 31)),
     o1 32 (.ext (.t 27) 0),
     o1 33 (.ext (.t 27) 1),
     o1 34 (.ext (.t 27) 2),
     o1 7 (.mv (.t 32)),
     o1 8 (.mv (.t 33)),
     o1 9 (.mv (.t 34))])
    (.seq (.reg [o1 36 (.mv (.t 1)),
      o1 37 (.mv (.t 0)),
      o1 38 (.mv (.t 2)),
      o1 39 (.call (.f 27) [(.t 36), (.t 37), (.t 38)]),
      o1 35 (.mv (.t 39)),
      o1 40 (.ext (.t 35) 0),
      o1 41 (.ext (.t 35) 1),
      o1 42 (.ext (.t 35) 2),
      o1 10 (.mv (.t 40)),
      o1 11 (.mv (.t 41)),
      o1 12 (.mv (.t 42))])
     (.seq (.seq (.reg [o1 43 (.mv (.t 9)),
        o1 44 (.mv (.t 12)),
        o1 45 (.bin .neq (.t 43) (.t 44)),
        o1 46 (.mv (.t 45)),
        oF 47 (.mv (.t 8)) 46,
        oF 48 (.mv (.t 11)) 46,
        oF 49 (.bin .neq (.t 47) (.t 48)) 46,
        o1 50 (.pick (.t 46) (cB true) (.t 49))])
       (.cond (.t 50) (.seq (.reg [o1 6 (.mv (cB false))])
         (.ret)) (.skip)))
      (.seq (.seq (.reg [o1 51 (.mv (.t 9)),
         o1 52 (.bin .neq (.t 51) (cI 0))])
        (.cond (.t 52) (.seq (.reg [o1 53 (.call (.f 17) []),
           o1 6 (.mv (.t 53))])
          (.ret)) (.skip)))
       (.seq (.reg [o1 13 (.mv (cI 0)),
         o1 14 (.mv (cI 0)),
         o1 15 (.mv (cI 0))])
        (.seq (.seq (.reg [o1 16 (.mv (cI 0))])
          (.block 0 (.loop (.seq (.seq (.reg [o1 54 (.mv (.t 16)),
               o1 55 (.mv (.t 7)),
               o1 56 (.lenL (.t 55)),
               o1 57 (.bin .lss (.t 54) (.t 56))])
              (.cond (.t 57) (.skip) (.exit 0)))
             (.seq (.block 1 (.seq (.seq (.reg [o1 60 (.mv (.t 7)),
                  o1 61 (.mv (.t 16)),
                  o1 62 (.iaddr 2 (.t 60) (.t 61)),
                  o1 63 (.faddr 0 (.t 62)),
                  o1 64 (.load none (.t 63)),
                  o1 65 (.bin .lss (.t 64) (cI 0)),
                  o1 66 (.mv (.t 65)),
                  oF 67 (.mv (.t 7)) 66,
                  oF 68 (.mv (.t 16)) 66,
                  oF 69 (.iaddr 2 (.t 67) (.t 68)) 66,
                  oF 70 (.faddr 1 (.t 69)) 66,
                  oF 71 (.load none (.t 70)) 66,
                  oF 72 (.bin .lss (.t 71) (cI 0)) 66,
                  o1 73 (.pick (.t 66) (cB true) (.t 72)),
                  o1 74 (.mv (.t 73)),
                  oF 75 (.mv (.t 7)) 74,
                  oF 76 (.mv (.t 16)) 74,
                  oF 77 (.iaddr 2 (.t 75) (.t 76)) 74,
                  oF 78 (.faddr 0 (.t 77)) 74,
                  oF 79 (.load none (.t 78)) 74,
                  oF 80 (.bin .gtr (.t 79) (cI 2)) 74,
                  o1 81 (.pick (.t 74) (cB true) (.t 80)),
                  o1 82 (.mv (.t 81)),
                  oF 83 (.mv (.t 7)) 82,
                  oF 84 (.mv (.t 16)) 82,
                  oF 85 (.iaddr 2 (.t 83) (.t 84)) 82,
                  oF 86 (.faddr 1 (.t 85)) 82,
                  oF 87 (.load none (.t 86)) 82,
                  oF 88 (.bin .gtr (.t 87) (cI 2)) 82,
                  o1 89 (.pick (.t 82) (cB true) (.t 88)),
                  o1 90 (.mv (.t 89)),
                  oF 91 (.mv (.t 13)) 90,
                  oF 92 (.mv (.t 7)) 90,
                  oF 93 (.mv (.t 16)) 90,
                  oF 94 (.iaddr 2 (.t 92) (.t 93)) 90,
                  oF 95 (.faddr 0 (.t 94)) 90,
                  oF 96 (.load none (.t 95)) 90,
                  oF 97 (.bin .add (.t 91) (.t 96)) 90,
                  oF 98 (.mv (.t 0)) 90,
                  oF 99 (.lenL (.t 98)) 90,
                  oF 100 (.bin .gtr (.t 97) (.t 99)) 90,
                  o1 101 (.pick (.t 90) (cB true) (.t 100)),
                  o1 102 (.mv (.t 101)),
                  oF 103 (.mv (.t 14)) 102,
                  oF 104 (.mv (.t 7)) 102,
                  oF 105 (.mv (.t 16)) 102,
                  oF 106 (.iaddr 2 (.t 104) (.t 105)) 102,
                  oF 107 (.faddr 1 (.t 106)) 102,
                  oF 108 (.load none (.t 107)) 102,
                  oF 109 (.bin .add (.t 103) (.t 108)) 102,
                  oF 110 (.mv (.t 1)) 102,
                  oF 111 (.lenL (.t 110)) 102,
                  oF 112 (.bin .gtr (.t 109) (.t 111)) 102,
                  o1 113 (.pick (.t 102) (cB true) (.t 112))])
                 (.cond (.t 113) (.seq (.reg [o1 6 (.mv (cB false))])
                   (.ret)) (.skip)))
                (.seq (.regD [o1 114 (.mv (.t 0)),
                  o1 115 (.mv (.t 13)),
                  o1 116 (.mv (.t 7)),
                  o1 117 (.mv (.t 16)),
                  o1 118 (.iaddr 2 (.t 116) (.t 117)),
                  o1 119 (.faddr 0 (.t 118)),
                  o1 120 (.load none (.t 119)),
                  o1 121 (.call (.f 29) [(.t 114), (.t 115), (.t 120)]),
                  o1 122 (.mv (.t 1)),
                  o1 123 (.mv (.t 14)),
                  o1 124 (.mv (.t 7)),
                  o1 125 (.mv (.t 16)),
                  o1 126 (.iaddr 2 (.t 124) (.t 125)),
                  o1 127 (.faddr 1 (.t 126)),
                  o1 128 (.load none (.t 127)),
                  o1 129 (.call (.f 29) [(.t 122), (.t 123), (.t 128)]),
                  o1 130 (.bin .sub (.t 121) (.t 129)),
                  o1 17 (.mv (.t 130))])
                 (.seq (.reg [o1 131 (.mv (.t 15)),
                   o1 132 (.mv (.t 17)),
                   o1 133 (.mv (.t 17)),
                   o1 134 (.un .neg (.t 133)),
                   o1 135 (.max (.t 132) (.t 134)),
                   o1 136 (.bin .add (.t 131) (.t 135)),
                   o1 15 (.mv (.t 136))])
                  (.seq (.seq (.reg [o1 137 (.mv (.t 7)),
                     o1 138 (.mv (.t 16)),
                     o1 139 (.iaddr 2 (.t 137) (.t 138)),
                     o1 140 (.faddr 0 (.t 139)),
                     o1 141 (.load none (.t 140)),
                     o1 142 (.bin .neq (.t 141) (cI 1)),
                     o1 143 (.mv (.t 142)),
                     oF 144 (.mv (.t 7)) 143,
                     oF 145 (.mv (.t 16)) 143,
                     oF 146 (.iaddr 2 (.t 144) (.t 145)) 143,
                     oF 147 (.faddr 1 (.t 146)) 143,
                     oF 148 (.load none (.t 147)) 143,
                     oF 149 (.bin .neq (.t 148) (cI 1)) 143,
                     o1 150 (.pick (.t 143) (cB true) (.t 149))])
                    (.cond (.t 150) (.reg [o1 151 (.mv (.t 15)),
                      o1 152 (.mv (.t 2)),
                      o1 153 (.bin .add (.t 151) (.t 152)),
                      o1 15 (.mv (.t 153))]) (.skip)))
                   (.regD [o1 154 (.mv (.t 13)),
                    o1 155 (.mv (.t 7)),
                    o1 156 (.mv (.t 16)),
                    o1 157 (.iaddr 2 (.t 155) (.t 156)),
                    o1 158 (.faddr 0 (.t 157)),
                    o1 159 (.load none (.t 158)),
                    o1 160 (.bin .add (.t 154) (.t 159)),
                    o1 161 (.mv (.t 14)),
                    o1 162 (.mv (.t 7)),
                    o1 163 (.mv (.t 16)),
                    o1 164 (.iaddr 2 (.t 162) (.t 163)),
                    o1 165 (.faddr 1 (.t 164)),
                    o1 166 (.load none (.t 165)),
                    o1 167 (.bin .add (.t 161) (.t 166)),
                    o1 13 (.mv (.t 160)),
                    o1 14 (.mv (.t 167))]))))))
              (.reg [o1 58 (.mv (.t 16)),
               o1 59 (.bin .add (.t 58) (cI 1)),
               o1 16 (.mv (.t 59))]))))))
         (.seq (.reg [o1 168 (.mv (.t 13)),
           o1 169 (.mv (.t 0)),
           o1 170 (.lenL (.t 169)),
           o1 171 (.bin .eql (.t 168) (.t 170)),
           o1 172 (.mv (.t 171)),
           oT 173 (.mv (.t 14)) 172,
           oT 174 (.mv (.t 1)) 172,
           oT 175 (.lenL (.t 174)) 172,
           oT 176 (.bin .eql (.t 173) (.t 175)) 172,
           o1 177 (.pick (.t 172) (.t 176) (cB false)),
           o1 178 (.mv (.t 177)),
           oT 179 (.mv (.t 15)) 178,
           oT 180 (.mv (.t 8)) 178,
           oT 181 (.bin .eql (.t 179) (.t 180)) 178,
           o1 182 (.pick (.t 178) (.t 181) (cB false)),
           o1 183 (.mv (.t 182)),
           oT 184 (.call (.f 17) []) 183,
           o1 185 (.pick (.t 183) (.t 184) (cB false)),
           o1 6 (.mv (.t 185))])
          (.ret)))))))))
theorem s7_ok : lookF Try.prog 7 = some (s7, 186, [.tmp 6]) := by kernel_rfl
set_option maxRecDepth 10000 in
set_option maxHeartbeats 2000000 in
theorem TallyUses_ok (a b : List Int) (s : Int) : Fn P 7 [sl a, sl b, intA s] (boolA true) := by
  have c1 := Align_ok a b s
  have c2 := Align_ok b a s
  have hsw := alT_sw a b s
  by_cases hE : 200 < a.length ∨ 200 < b.length ∨ a.any badN = true ∨ b.any badN = true ∨ badN s = true
  · have he : (alT a b s).2 ≠ 0 := by
      unfold alT
      by_cases h1 : 200 < a.length ∨ 200 < b.length
      · rw [if_pos h1]; decide
      · rw [if_neg h1, if_pos (by rcases hE with h | h | h; exact absurd (.inl h) h1; exact absurd (.inr h) h1; exact h)]; decide
    generalize alT a b s = r at *
    generalize alT b a s = r2 at *
    obtain ⟨q1, q2⟩ := hsw
    (refine fn_look s7_ok (by simp) (by intro k; simp only [go_sem, Nat.reduceEqDiff, ↓reduceIte, reduceCtorEq, Nat.reduceAdd, Nat.reduceMul, Int.reduceToNat, List.reduceReplicate, Nat.reduceLeDiff, Nat.reduceLT, Int.reduceLT, Int.reduceLE, Int.reduceEq]) fun S hS => cwp_sound _ _ _ _ ?_; simp (maxSteps := 900000) (disch := omega) only [s7, go_sem, Nat.reduceEqDiff, ↓reduceIte, reduceCtorEq, Nat.reduceAdd, Nat.reduceMul, Int.reduceToNat, List.reduceReplicate, Nat.reduceLeDiff, Nat.reduceLT, Int.reduceLT, Int.reduceLE, Int.reduceEq])
    repeat' (first | with_reducible refine inw ?_ | simp (maxSteps := 900000) (disch := omega) only [go_sem, Nat.reduceEqDiff, ↓reduceIte, reduceCtorEq, Nat.reduceAdd, Nat.reduceMul, Int.reduceToNat, List.reduceReplicate, Nat.reduceLeDiff, Nat.reduceLT, Int.reduceLT, Int.reduceLE, Int.reduceEq] | (with_reducible apply call (c1)); (focus simp (maxSteps := 900000) (disch := omega) only [go_sem, Nat.reduceEqDiff, ↓reduceIte, reduceCtorEq, Nat.reduceAdd, Nat.reduceMul, Int.reduceToNat, List.reduceReplicate, Nat.reduceLeDiff, Nat.reduceLT, Int.reduceLT, Int.reduceLE, Int.reduceEq] <;> rfl) | (with_reducible apply call (c2)); (focus simp (maxSteps := 900000) (disch := omega) only [go_sem, Nat.reduceEqDiff, ↓reduceIte, reduceCtorEq, Nat.reduceAdd, Nat.reduceMul, Int.reduceToNat, List.reduceReplicate, Nat.reduceLeDiff, Nat.reduceLT, Int.reduceLT, Int.reduceLE, Int.reduceEq] <;> rfl) | (with_reducible apply call (known_ok)); (focus simp (maxSteps := 900000) (disch := omega) only [go_sem, Nat.reduceEqDiff, ↓reduceIte, reduceCtorEq, Nat.reduceAdd, Nat.reduceMul, Int.reduceToNat, List.reduceReplicate, Nat.reduceLeDiff, Nat.reduceLT, Int.reduceLT, Int.reduceLE, Int.reduceEq] <;> rfl) | with_reducible refine giv_intro fun _h => ?_ | with_reducible refine alt_intro ?_ fun _h => ?_ | with_reducible refine pickD_nil ?_ | (with_reducible refine brc (fun _h => ?_) fun _h => ?_) <;> first | (exfalso; omega) | simp only [decide_eq_false _h] | simp only [(_h : (_ : Bool) = _)] | simp only [decide_eq_true _h] | skip)
  have ha := any_ok (l := a) (by cases h : a.any badN; rfl; exact absurd (.inr (.inr (.inl h))) hE)
  have hb := any_ok (l := b) (by cases h : b.any badN; rfl; exact absurd (.inr (.inr (.inr (.inl h)))) hE)
  have hs : 0 ≤ s ∧ s ≤ 1000 := any_ok (l := [s]) (by cases h : badN s; simp [h]; exact absurd (.inr (.inr (.inr (.inr h)))) hE) s (by simp)
  have hla : a.length ≤ 200 := by omega
  have hlb : b.length ≤ 200 := by omega
  have e1 : alT a b s = ((pathB a b s 0 0, tab a b s 0 0), 0) := by
    unfold alT
    rw [if_neg (by omega), if_neg (by rintro (h | h | h); exact hE (.inr (.inr (.inl h))); exact hE (.inr (.inr (.inr (.inl h)))); exact hE (.inr (.inr (.inr (.inr h)))))]
  rw [e1] at c1 hsw
  have htb := tab_le ha hb hs hla hlb 0 0
  have hI0 : (pathB a b s 0 0).drop 0 = pathB a b s 0 0 := rfl
  generalize alT b a s = r2 at *
  obtain ⟨⟨y, m⟩, f⟩ := r2
  obtain ⟨rfl, rfl⟩ : f = 0 ∧ m = tab a b s 0 0 := hsw
  generalize hx : pathB a b s 0 0 = x at *
  generalize ht : tab a b s 0 0 = t at *
  (refine fn_look s7_ok (by simp) (by intro k; simp only [go_sem, Nat.reduceEqDiff, ↓reduceIte, reduceCtorEq, Nat.reduceAdd, Nat.reduceMul, Int.reduceToNat, List.reduceReplicate, Nat.reduceLeDiff, Nat.reduceLT, Int.reduceLT, Int.reduceLE, Int.reduceEq]) fun S hS => cwp_sound _ _ _ _ ?_; simp (maxSteps := 900000) (disch := omega) only [s7, go_sem, Nat.reduceEqDiff, ↓reduceIte, reduceCtorEq, Nat.reduceAdd, Nat.reduceMul, Int.reduceToNat, List.reduceReplicate, Nat.reduceLeDiff, Nat.reduceLT, Int.reduceLT, Int.reduceLE, Int.reduceEq])
  repeat' (first | with_reducible refine inw ?_ | simp (maxSteps := 900000) (disch := omega) only [go_sem, Nat.reduceEqDiff, ↓reduceIte, reduceCtorEq, Nat.reduceAdd, Nat.reduceMul, Int.reduceToNat, List.reduceReplicate, Nat.reduceLeDiff, Nat.reduceLT, Int.reduceLT, Int.reduceLE, Int.reduceEq] | (with_reducible apply call (c1)); (focus simp (maxSteps := 900000) (disch := omega) only [go_sem, Nat.reduceEqDiff, ↓reduceIte, reduceCtorEq, Nat.reduceAdd, Nat.reduceMul, Int.reduceToNat, List.reduceReplicate, Nat.reduceLeDiff, Nat.reduceLT, Int.reduceLT, Int.reduceLE, Int.reduceEq] <;> rfl) | (with_reducible apply call (c2)); (focus simp (maxSteps := 900000) (disch := omega) only [go_sem, Nat.reduceEqDiff, ↓reduceIte, reduceCtorEq, Nat.reduceAdd, Nat.reduceMul, Int.reduceToNat, List.reduceReplicate, Nat.reduceLeDiff, Nat.reduceLT, Int.reduceLT, Int.reduceLE, Int.reduceEq] <;> rfl) | (with_reducible apply call (known_ok)); (focus simp (maxSteps := 900000) (disch := omega) only [go_sem, Nat.reduceEqDiff, ↓reduceIte, reduceCtorEq, Nat.reduceAdd, Nat.reduceMul, Int.reduceToNat, List.reduceReplicate, Nat.reduceLeDiff, Nat.reduceLT, Int.reduceLT, Int.reduceLE, Int.reduceEq] <;> rfl) | with_reducible refine giv_intro fun _h => ?_ | with_reducible refine alt_intro ?_ fun _h => ?_ | with_reducible refine pickD_nil ?_ | (with_reducible refine brc (fun _h => ?_) fun _h => ?_) <;> first | (exfalso; omega) | simp only [decide_eq_false _h] | simp only [(_h : (_ : Bool) = _)] | simp only [decide_eq_true _h] | skip)
  (refine loopC hS [0, 1, 2, 7, 8] (by simp only [go_sem, Nat.reduceEqDiff, ↓reduceIte, reduceCtorEq, Nat.reduceAdd, Nat.reduceMul, Int.reduceToNat, List.reduceReplicate, Nat.reduceLeDiff, Nat.reduceLT, Int.reduceLT, Int.reduceLE, Int.reduceEq]; try rfl) (fun (⟨p, i, k⟩ : Nat × Nat × Nat) => [(13, intA i), (14, intA k), (15, intA (t - tab a b s i k)), (16, intA p)]) (fun (⟨p, i, k⟩ : Nat × Nat × Nat) => []) (fun (⟨p, i, k⟩ : Nat × Nat × Nat) => p ≤ x.length ∧ i ≤ a.length ∧ k ≤ b.length ∧ x.drop p = pathB a b s i k) (fun (⟨p, i, k⟩ : Nat × Nat × Nat) => x.length - p) ((0, 0, 0)) ?h02 ?hn2 ?rd2; case hn2 => (intro s; first | rfl | (rcases s with ⟨_, _⟩; rfl) | (rcases s with ⟨_, _, _⟩; rfl) | (rcases s with ⟨_, _, _, _⟩; rfl) | (rcases s with ⟨_, _, _, _, _⟩; rfl)))
  · simp (maxSteps := 900000) (disch := omega) only [go_sem, Nat.reduceEqDiff, ↓reduceIte, reduceCtorEq, Nat.reduceAdd, Nat.reduceMul, Int.reduceToNat, List.reduceReplicate, Nat.reduceLeDiff, Nat.reduceLT, Int.reduceLT, Int.reduceLE, Int.reduceEq]
    exact ⟨⟨Nat.zero_le _, Nat.zero_le _, Nat.zero_le _, hx.symm⟩, by rw [ht]; omega⟩
  rintro ⟨p, i, k⟩ ⟨hp, hi, hk, hI⟩
  replace hp : p ≤ x.length := hp
  replace hi : i ≤ a.length := hi
  replace hk : k ≤ b.length := hk
  replace hI : x.drop p = pathB a b s i k := hI
  by_cases hpl : p < x.length
  · obtain ⟨u, v, hx1, hu, hv, hf1, hf2, hd, hc⟩ := way_step ha hb hs hi hk hI hpl
    have hn1 := congrArg Prod.fst hx1
    have hn2 := congrArg Prod.snd hx1
    dsimp only at hn1 hn2
    have d1 := partW_ok a ha i u hla hf1
    have d2 := partW_ok b hb k v hlb hf2
    have t1 := totI_part ha i u hu
    have t2 := totI_part hb k v hv
    have b1 := tab_le ha hb hs hla hlb i k
    have b2 := tab_le ha hb hs hla hlb (i + u) (k + v)
    have hcl : costB a b s i k ((u : Int), (v : Int)) = if (u : Int) ≠ 1 ∨ (v : Int) ≠ 1 then max (totI ((a.drop i).take u) - totI ((b.drop k).take v)) (0 - (totI ((a.drop i).take u) - totI ((b.drop k).take v))) + s else max (totI ((a.drop i).take u) - totI ((b.drop k).take v)) (0 - (totI ((a.drop i).take u) - totI ((b.drop k).take v))) := by
      rw [costB]; simp only [absI, diffB, Int.toNat_natCast, Int.zero_sub]
    by_cases hq : (u : Int) ≠ 1 ∨ (v : Int) ≠ 1
    · rw [if_pos hq] at hcl
      repeat' (first | with_reducible refine inw ?_ | simp (maxSteps := 900000) (disch := omega) only [go_sem, Nat.reduceEqDiff, ↓reduceIte, reduceCtorEq, Nat.reduceAdd, Nat.reduceMul, Int.reduceToNat, List.reduceReplicate, Nat.reduceLeDiff, Nat.reduceLT, Int.reduceLT, Int.reduceLE, Int.reduceEq, hn1, hn2] | (with_reducible apply call_D (d1)); (focus simp (maxSteps := 900000) (disch := omega) only [go_sem, Nat.reduceEqDiff, ↓reduceIte, reduceCtorEq, Nat.reduceAdd, Nat.reduceMul, Int.reduceToNat, List.reduceReplicate, Nat.reduceLeDiff, Nat.reduceLT, Int.reduceLT, Int.reduceLE, Int.reduceEq, hn1, hn2] <;> rfl) | (with_reducible apply call_D (d2)); (focus simp (maxSteps := 900000) (disch := omega) only [go_sem, Nat.reduceEqDiff, ↓reduceIte, reduceCtorEq, Nat.reduceAdd, Nat.reduceMul, Int.reduceToNat, List.reduceReplicate, Nat.reduceLeDiff, Nat.reduceLT, Int.reduceLT, Int.reduceLE, Int.reduceEq, hn1, hn2] <;> rfl) | with_reducible refine giv_intro fun _h => ?_ | with_reducible refine alt_intro ?_ fun _h => ?_ | with_reducible refine pickD_nil ?_ | (with_reducible refine brc (fun _h => ?_) fun _h => ?_) <;> first | (exfalso; omega) | simp only [decide_eq_false _h] | simp only [(_h : (_ : Bool) = _)] | simp only [decide_eq_true _h] | skip)
      all_goals exact ⟨(p + 1, i + u, k + v), ⟨by show x.length - (p + 1) < _; omega, by show p + 1 ≤ _; omega, hf1, hf2, hd⟩, by show _ = ((i + u : Nat) : Int); omega, by show _ = ((k + v : Nat) : Int); omega, by show _ = t - tab a b s (i + u) (k + v); omega, by show _ = ((p + 1 : Nat) : Int); omega⟩
    · rw [if_neg hq] at hcl
      repeat' (first | with_reducible refine inw ?_ | simp (maxSteps := 900000) (disch := omega) only [go_sem, Nat.reduceEqDiff, ↓reduceIte, reduceCtorEq, Nat.reduceAdd, Nat.reduceMul, Int.reduceToNat, List.reduceReplicate, Nat.reduceLeDiff, Nat.reduceLT, Int.reduceLT, Int.reduceLE, Int.reduceEq, hn1, hn2] | (with_reducible apply call_D (d1)); (focus simp (maxSteps := 900000) (disch := omega) only [go_sem, Nat.reduceEqDiff, ↓reduceIte, reduceCtorEq, Nat.reduceAdd, Nat.reduceMul, Int.reduceToNat, List.reduceReplicate, Nat.reduceLeDiff, Nat.reduceLT, Int.reduceLT, Int.reduceLE, Int.reduceEq, hn1, hn2] <;> rfl) | (with_reducible apply call_D (d2)); (focus simp (maxSteps := 900000) (disch := omega) only [go_sem, Nat.reduceEqDiff, ↓reduceIte, reduceCtorEq, Nat.reduceAdd, Nat.reduceMul, Int.reduceToNat, List.reduceReplicate, Nat.reduceLeDiff, Nat.reduceLT, Int.reduceLT, Int.reduceLE, Int.reduceEq, hn1, hn2] <;> rfl) | with_reducible refine giv_intro fun _h => ?_ | with_reducible refine alt_intro ?_ fun _h => ?_ | with_reducible refine pickD_nil ?_ | (with_reducible refine brc (fun _h => ?_) fun _h => ?_) <;> first | (exfalso; omega) | simp only [decide_eq_false _h] | simp only [(_h : (_ : Bool) = _)] | simp only [decide_eq_true _h] | skip)
      all_goals exact ⟨(p + 1, i + u, k + v), ⟨by show x.length - (p + 1) < _; omega, by show p + 1 ≤ _; omega, hf1, hf2, hd⟩, by show _ = ((i + u : Nat) : Int); omega, by show _ = ((k + v : Nat) : Int); omega, by show _ = t - tab a b s (i + u) (k + v); omega, by show _ = ((p + 1 : Nat) : Int); omega⟩
  · obtain ⟨rfl, rfl, h0⟩ := way_end ha hb hs hi hk (by rw [← hI, List.drop_eq_nil_of_le (by omega)])
    repeat' (first | with_reducible refine inw ?_ | simp (maxSteps := 900000) (disch := omega) only [go_sem, Nat.reduceEqDiff, ↓reduceIte, reduceCtorEq, Nat.reduceAdd, Nat.reduceMul, Int.reduceToNat, List.reduceReplicate, Nat.reduceLeDiff, Nat.reduceLT, Int.reduceLT, Int.reduceLE, Int.reduceEq] | (with_reducible apply call (known_ok)); (focus simp (maxSteps := 900000) (disch := omega) only [go_sem, Nat.reduceEqDiff, ↓reduceIte, reduceCtorEq, Nat.reduceAdd, Nat.reduceMul, Int.reduceToNat, List.reduceReplicate, Nat.reduceLeDiff, Nat.reduceLT, Int.reduceLT, Int.reduceLE, Int.reduceEq] <;> rfl) | with_reducible refine giv_intro fun _h => ?_ | with_reducible refine alt_intro ?_ fun _h => ?_ | with_reducible refine pickD_nil ?_ | (with_reducible refine brc (fun _h => ?_) fun _h => ?_) <;> first | (exfalso; omega) | simp only [decide_eq_false _h] | simp only [(_h : (_ : Bool) = _)] | simp only [decide_eq_true _h] | skip)
    all_goals (exfalso; omega)
end Go.Proofs.Ytedbjmonfbpefaa.Ev

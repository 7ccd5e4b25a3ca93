/- The law LearnFalls. -/
import Derived.Test.YtapgimibdamjoaaZFnNy
set_option linter.unusedVariables false
set_option linter.unusedSimpArgs false
namespace Go.Proofs.Ytapgimibdamjoaa.Ev
open Go Go.Proofs Go.RowKit

theorem runT_one {c : Change} {x : Lesson} (hc : chB c = true ∧ c.2.2.2.size ≤ 400) (hx : longL x = false ∧ fitL x = true ∧ nmL x = true) : runT [c] x.1 x.2.1 = (doneL c x.1 x.2.1, 0) := by
  have e1 : valC [c] = 0 := valC_of (by simp) (by simpa using hc)
  have e2 : valL [(x.1, x.2.1, x.2.1)] = 0 := by
    rw [valL_iff]
    refine ⟨by simp, fun y hy => ?_⟩
    obtain rfl : y = (x.1, x.2.1, x.2.1) := by simpa using hy
    obtain ⟨a, b, d⟩ := hx
    simp only [fitL, nmL, Bool.and_eq_true, decide_eq_true_eq] at b d
    refine ⟨a, ?_, ?_⟩
    · simp only [fitL, Bool.and_eq_true, decide_eq_true_eq]; exact ⟨b.1, b.1⟩
    · simp only [nmL, Bool.and_eq_true]; exact ⟨d.1, d.1⟩
  have e3 : oneT [c] x.1 x.2.1 = 0 := by rw [oneT, if_neg (by simpa using e1), e2]
  rw [runT, if_neg (by simpa using e3)]; rfl
/-- ablaut/ablautlaw22.LearnFalls: 3 parameters, 0 captured -/
def s9 : SC := .seq (.reg [o1 6 (.mv (cB false))])
  (.seq (.seq (.reg [o1 27 (.mv (.t 0)),
     o1 28 (.call (.f 11) [(.t 27)])])
    (.cond (.t 28) (.seq (.reg [o1 29 (.call (.f 12) []),
       o1 6 (.mv (.t 29))])
      (.ret)) (.skip)))
   (.seq (.reg [o1 31 (.mv (.t 0)),
     o1 32 (.mv (.t 1)),
     o1 33 (.mv (.t 2)),
     o1 34 (.call (.f 24) [(.t 31), (.t 32), (.t 33)]),
     o1 30 (.mv (.t 34)),
     o1 35 (.ext (.t 30) 0),
     o1 36 (.ext (.t 30) 1),
     o1 7 (.mv (.t 35)),
     o1 8 (.mv (.t 36))])
    (.seq (.seq (.reg [o1 37 (.mv (.t 8)),
       o1 38 (.bin .neq (.t 37) (cI 0))])
      (.cond (.t 38) (.seq (.reg [o1 39 (.mv (.t 7)),
         o1 40 (.lenL (.t 39)),
         o1 41 (.bin .eql (.t 40) (cI 0)),
         o1 42 (.mv (.t 41)),
         oT 43 (.call (.f 12) []) 42,
         o1 44 (.pick (.t 42) (.t 43) (cB false)),
         o1 6 (.mv (.t 44))])
        (.ret)) (.skip)))
     (.seq (.reg [o1 45 (.mv (.t 0)),
       o1 46 (.app 56 3 72 (.c (.slice none 0 0)) (.t 45)),
       o1 9 (.mv (.t 46))])
      (.seq (.reg [o1 48 (.mv (.t 0)),
        o1 49 (.call (.f 30) [(.c (.slice none 0 0)), (.t 48)]),
        o1 47 (.mv (.t 49)),
        o1 50 (.ext (.t 47) 0),
        o1 51 (.ext (.t 47) 1),
        o1 10 (.mv (.t 50)),
        o1 11 (.mv (.t 51))])
       (.seq (.seq (.reg [o1 12 (.mv (cI 0))])
         (.block 0 (.loop (.seq (.seq (.reg [o1 52 (.mv (.t 12)),
              o1 53 (.mv (.t 7)),
              o1 54 (.lenL (.t 53)),
              o1 55 (.bin .lss (.t 52) (.t 54))])
             (.cond (.t 55) (.skip) (.exit 0)))
            (.seq (.block 1 (.seq (.reg [o1 59 (.mv (.t 7)),
                o1 60 (.mv (.t 12)),
                o1 61 (.bin .add (.t 60) (cI 1)),
                o1 62 (.sl 4 (.t 59) none (some (.t 61))),
                o1 63 (.mv (.t 0)),
                o1 64 (.call (.f 30) [(.t 62), (.t 63)]),
                o1 58 (.mv (.t 64)),
                o1 65 (.ext (.t 58) 0),
                o1 66 (.ext (.t 58) 1),
                o1 13 (.mv (.t 65)),
                o1 14 (.mv (.t 66))])
               (.seq (.reg [o1 68 (.mv (.t 7)),
                 o1 69 (.mv (.t 12)),
                 o1 70 (.iaddr 4 (.t 68) (.t 69)),
                 o1 71 (.load (some 4) (.t 70)),
                 o1 72 (.mv (.t 9)),
                 o1 73 (.call (.f 17) [(.t 71), (.t 72)]),
                 o1 67 (.mv (.t 73)),
                 o1 74 (.ext (.t 67) 0),
                 o1 75 (.ext (.t 67) 1),
                 o1 15 (.mv (.t 74)),
                 o1 16 (.mv (.t 75))])
                (.seq (.seq (.reg [o1 76 (.mv (.t 14)),
                   o1 77 (.bin .neq (.t 76) (cI 0)),
                   o1 78 (.mv (.t 77)),
                   oF 79 (.mv (.t 16)) 78,
                   oF 80 (.bin .neq (.t 79) (cI 0)) 78,
                   o1 81 (.pick (.t 78) (cB true) (.t 80)),
                   o1 82 (.mv (.t 81)),
                   oF 83 (.mv (.t 10)) 82,
                   oF 84 (.mv (.t 13)) 82,
                   oF 85 (.bin .sub (.t 83) (.t 84)) 82,
                   oF 86 (.mv (.t 1)) 82,
                   oF 87 (.bin .lss (.t 85) (.t 86)) 82,
                   o1 88 (.pick (.t 82) (cB true) (.t 87)),
                   o1 89 (.mv (.t 88)),
                   oF 90 (.mv (.t 15)) 89,
                   oF 91 (.mv (.t 10)) 89,
                   oF 92 (.mv (.t 13)) 89,
                   oF 93 (.bin .sub (.t 91) (.t 92)) 89,
                   oF 94 (.bin .neq (.t 90) (.t 93)) 89,
                   o1 95 (.pick (.t 89) (cB true) (.t 94))])
                  (.cond (.t 95) (.seq (.reg [o1 6 (.mv (cB false))])
                    (.ret)) (.skip)))
                 (.seq (.reg [o1 96 (.mv (.t 13)),
                   o1 10 (.mv (.t 96))])
                  (.seq (.reg [o1 17 (.mv (cI 0))])
                   (.block 2 (.loop (.seq (.seq (.reg [o1 97 (.mv (.t 17)),
                        o1 98 (.mv (.t 9)),
                        o1 99 (.lenL (.t 98)),
                        o1 100 (.bin .lss (.t 97) (.t 99))])
                       (.cond (.t 100) (.skip) (.exit 2)))
                      (.seq (.block 3 (.seq (.regD [o1 104 (.mv (.t 7)),
                          o1 105 (.mv (.t 12)),
                          o1 106 (.mv (.t 12)),
                          o1 107 (.bin .add (.t 106) (cI 1)),
                          o1 108 (.sl 4 (.t 104) (some (.t 105)) (some (.t 107))),
                          o1 109 (.mv (.t 9)),
                          o1 110 (.mv (.t 17)),
                          o1 111 (.iaddr 3 (.t 109) (.t 110)),
                          o1 112 (.faddr 0 (.t 111)),
                          o1 113 (.load none (.t 112)),
                          o1 114 (.mv (.t 9)),
                          o1 115 (.mv (.t 17)),
                          o1 116 (.iaddr 3 (.t 114) (.t 115)),
                          o1 117 (.faddr 1 (.t 116)),
                          o1 118 (.load none (.t 117)),
                          o1 119 (.call (.f 27) [(.t 108), (.t 113), (.t 118)]),
                          o1 103 (.mv (.t 119)),
                          o1 120 (.ext (.t 103) 0),
                          o1 121 (.ext (.t 103) 1),
                          o1 18 (.mv (.t 120)),
                          o1 19 (.mv (.t 121))])
                         (.seq (.seq (.reg [o1 122 (.mv (.t 19)),
                            o1 123 (.bin .neq (.t 122) (cI 0))])
                           (.cond (.t 123) (.seq (.reg [o1 6 (.mv (cB false))])
                             (.ret)) (.skip)))
                          (.reg [o1 124 (.mv (.t 9)),
                           o1 125 (.mv (.t 17)),
                           o1 126 (.mv (.t 18)),
                           o1 127 (.iaddr 3 (.t 124) (.t 125)),
                           o1 128 (.faddr 1 (.t 127)),
                           o0 (.store 1 (.t 128) (.t 126))]))))
                       (.reg [o1 101 (.mv (.t 17)),
                        o1 102 (.bin .add (.t 101) (cI 1)),
                        o1 17 (.mv (.t 102))])))))))))))
             (.reg [o1 56 (.mv (.t 12)),
              o1 57 (.bin .add (.t 56) (cI 1)),
              o1 12 (.mv (.t 57))]))))))
        (.seq (.reg [o1 130 (.mv (.t 9)),
          o1 131 (.call (.f 19) [(.t 130)]),
          o1 129 (.mv (.t 131)),
          o1 132 (.ext (.t 129) 0),
          o1 133 (.ext (.t 129) 1),
          o1 134 (.ext (.t 129) 2),
          o1 20 (.alloc 32 4 [(.string ⟨#[]⟩), (.string ⟨#[]⟩), (.int .i64 0), (.string ⟨#[]⟩)]),
          o0 (.store 4 (.t 20) (.t 132)),
          o1 21 (.mv (.t 133)),
          o1 22 (.mv (.t 134))])
         (.seq (.seq (.reg [o1 135 (.mv (.t 11)),
            o1 136 (.bin .neq (.t 135) (cI 0)),
            o1 137 (.mv (.t 136)),
            oF 138 (.mv (.t 7)) 137,
            oF 139 (.lenL (.t 138)) 137,
            oF 140 (.mv (.t 2)) 137,
            oF 141 (.bin .gtr (.t 139) (.t 140)) 137,
            o1 142 (.pick (.t 137) (cB true) (.t 141)),
            o1 143 (.mv (.t 142)),
            oF 144 (.mv (.t 7)) 143,
            oF 145 (.lenL (.t 144)) 143,
            oF 146 (.mv (.t 2)) 143,
            oF 147 (.bin .lss (.t 145) (.t 146)) 143,
            oF 148 (.mv (.t 147)) 143,
            oT 149 (.mv (.t 22)) 148,
            oT 150 (.bin .eql (.t 149) (cI 0)) 148,
            oF 151 (.pick (.t 148) (.t 150) (cB false)) 143,
            oF 152 (.mv (.t 151)) 143,
            oT 153 (.mv (.t 21)) 152,
            oT 154 (.mv (.t 1)) 152,
            oT 155 (.bin .geq (.t 153) (.t 154)) 152,
            oF 156 (.pick (.t 152) (.t 155) (cB false)) 143,
            o1 157 (.pick (.t 143) (cB true) (.t 156))])
           (.cond (.t 157) (.seq (.reg [o1 6 (.mv (cB false))])
             (.ret)) (.skip)))
          (.seq (.reg [o1 159 (.mv (.t 7)),
            o1 160 (.mv (.t 0)),
            o1 161 (.call (.f 32) [(.t 159), (.t 160)]),
            o1 158 (.mv (.t 161)),
            o1 162 (.ext (.t 158) 0),
            o1 163 (.ext (.t 158) 1),
            o1 23 (.mv (.t 162)),
            o1 24 (.mv (.t 163))])
           (.seq (.reg [o1 165 (.mv (.t 23)),
             o1 166 (.mv (.t 0)),
             o1 167 (.call (.f 30) [(.t 165), (.t 166)]),
             o1 164 (.mv (.t 167)),
             o1 168 (.ext (.t 164) 0),
             o1 169 (.ext (.t 164) 1),
             o1 25 (.mv (.t 168)),
             o1 26 (.mv (.t 169))])
            (.seq (.reg [o1 170 (.mv (.t 24)),
              o1 171 (.bin .eql (.t 170) (cI 0)),
              o1 172 (.mv (.t 171)),
              oT 173 (.mv (.t 26)) 172,
              oT 174 (.bin .eql (.t 173) (cI 0)) 172,
              o1 175 (.pick (.t 172) (.t 174) (cB false)),
              o1 176 (.mv (.t 175)),
              oT 177 (.mv (.t 25)) 176,
              oT 178 (.mv (.t 10)) 176,
              oT 179 (.bin .leq (.t 177) (.t 178)) 176,
              o1 180 (.pick (.t 176) (.t 179) (cB false)),
              o1 181 (.mv (.t 180)),
              oT 182 (.mv (.t 23)) 181,
              oT 183 (.lenL (.t 182)) 181,
              oT 184 (.mv (.t 7)) 181,
              oT 185 (.lenL (.t 184)) 181,
              oT 186 (.bin .leq (.t 183) (.t 185)) 181,
              o1 187 (.pick (.t 181) (.t 186) (cB false)),
              o1 188 (.mv (.t 187)),
              oT 189 (.call (.f 12) []) 188,
              o1 190 (.pick (.t 188) (.t 189) (cB false)),
              o1 6 (.mv (.t 190))])
             (.ret))))))))))))
theorem s9_ok : lookF Try.prog 9 = some (s9, 191, [.tmp 6]) := by kernel_rfl
set_option maxHeartbeats 8000000 in
theorem LearnFalls_ok (ls : List Lesson) (least most : Int) (hs : SmLs ls) : Fn P 9 [sl ls, intA least, intA most] (boolA true) := by
  have c0 := Learn_ok ls least most hs
  by_cases he : (learnT ls least most).2 = 0
  · have hv : valL ls = 0 := by
      rw [learnT] at he
      split at he
      · exact absurd he (by assumption)
      · simpa using ‹¬valL ls ≠ 0›
    have hb : ¬(least < 1 ∨ most < 1 ∨ 24 < most) := by
      intro q
      rw [learnT, if_neg (by simpa using hv), if_pos q] at he
      cases he
    have et : learnT ls least most = (learnS least most.toNat ls, 0) := by rw [learnT, if_neg (by simpa using hv), if_neg hb]
    rw [et] at c0
    have hL := learnt least most.toNat ls
    generalize learnS least most.toNat ls = c at c0 hL
    have hl1 : 1 ≤ least := by omega
    have hch := learnt_ch hL hl1 hv hs
    have hcl := hL.len
    have hva := valid_all hL hl1 hv hs
    have sC : ∀ x ∈ c, SmC x := fun x hx => (hch x hx).2
    have vC : valC c = 0 := valC_of (by omega) fun x hx => (hch x hx).1
    have sT : ∀ i, ∀ x ∈ c.take i, SmC x := fun i x hx => sC x (List.mem_of_mem_take hx)
    have vT : ∀ i, valC (c.take i) = 0 := fun i => valC_of (by rw [List.length_take]; omega) fun x hx => (hch x (List.mem_of_mem_take hx)).1
    have wT : ∀ i, wrongT (c.take i) ls = ((wrongL (c.take i) ls : Int), (0 : Int)) := fun i => by
      rw [wrongT, if_neg (by rw [bothV, if_neg (by simpa using vT i)]; simpa using hv)]
    have hll := (valL_ok hv).1
    have hN := hva c.length (Nat.le_refl _)
    rw [List.take_length] at hN
    have k1 := Wrong_ok [] ls (by simp) hs
    have w0 := wT 0
    rw [List.take_zero] at w0
    rw [w0] at k1
    have k2 := Best_ok (chgs c ls) hN.2
    have k3 := Prune_ok c ls sC hs
    have bc : bothV c ls = 0 := by rw [bothV, if_neg (by simpa using vC), hv]
    rw [pruneT, if_neg (by simpa using bc)] at k3
    obtain ⟨p1, p2, p3⟩ := prune_le ls (wrongL c ls) c.length c (Nat.le_refl _) (Nat.le_refl _)
    generalize pruneF ls (wrongL c ls) c.length c = p at k3 p1 p2 p3
    have k4 := Wrong_ok p ls (fun x hx => sC x (p3 x hx)) hs
    have vP : valC p = 0 := valC_of (by omega) fun x hx => (hch x (p3 x hx)).1
    have wP : wrongT p ls = ((wrongL p ls : Int), (0 : Int)) := by
      rw [wrongT, if_neg (by rw [bothV, if_neg (by simpa using vP)]; simpa using hv)]
    rw [wP] at k4
    have hbd : ∀ i, wrongL (c.take i) ls ≤ 40000 := fun i => by
      have h1 := wrF_le (l := c.take i) (okLs hv) (Nat.le_refl _)
      have h2 := (okLs hv).1
      rw [wrongL]; omega
    have hstop : c.length < most.toNat → (bestL (chgs c ls)).2 < least := hL.stop
    have kB : bestT (chgs c ls) = if (bestL (chgs c ls)).2 < 1 then ((dfC, 0), 4) else (bestL (chgs c ls), 0) := by
      rw [bestT, if_neg (by simpa using hN.1)]
    rcases Nat.eq_zero_or_pos ls.length with h0 | h0
    · obtain rfl := List.eq_nil_of_length_eq_zero h0
      have hc0 : c = [] := by
        have e : bestL [] = (dfC, 0) := (best_eq (.inl ⟨rfl, fun c _ => Int.le_refl _⟩)).symm
        cases c with
        | nil => rfl
        | cons x c =>
          have := (hL.is 0 (by simp)).2
          rw [List.take_zero] at this
          change least ≤ (bestL []).2 at this
          rw [e] at this
          change least ≤ 0 at this
          omega
      subst hc0
      by_cases hq : (bestL (chgs [] [])).2 < 1
      · rw [kB, if_pos hq] at k2
        (refine fn_look s9_ok (by simp) (by intro k; simp only [go_sem, Nat.reduceEqDiff, ↓reduceIte, reduceCtorEq, Nat.reduceAdd, Nat.reduceMul, Int.reduceToNat, List.reduceReplicate, Nat.reduceLeDiff, Nat.reduceLT, Int.reduceLT, Int.reduceLE, Int.reduceEq]) fun S hS => cwp_sound _ _ _ _ ?_; simp (maxSteps := 900000) (disch := omega) only [s9, go_sem, Nat.reduceEqDiff, ↓reduceIte, reduceCtorEq, Nat.reduceAdd, Nat.reduceMul, Int.reduceToNat, List.reduceReplicate, Nat.reduceLeDiff, Nat.reduceLT, Int.reduceLT, Int.reduceLE, Int.reduceEq])
        repeat' (first | with_reducible refine inw ?_ | simp (maxSteps := 900000) (disch := omega) only [go_sem, Nat.reduceEqDiff, ↓reduceIte, reduceCtorEq, Nat.reduceAdd, Nat.reduceMul, Int.reduceToNat, List.reduceReplicate, Nat.reduceLeDiff, Nat.reduceLT, Int.reduceLT, Int.reduceLE, Int.reduceEq] | (with_reducible apply callR (over_ok [] hs)); (focus simp (maxSteps := 900000) (disch := omega) only [go_sem, Nat.reduceEqDiff, ↓reduceIte, reduceCtorEq, Nat.reduceAdd, Nat.reduceMul, Int.reduceToNat, List.reduceReplicate, Nat.reduceLeDiff, Nat.reduceLT, Int.reduceLT, Int.reduceLE, Int.reduceEq] <;> rfl); rintro _ ⟨_, rfl⟩ | (with_reducible apply call (known_ok)); (focus simp (maxSteps := 900000) (disch := omega) only [go_sem, Nat.reduceEqDiff, ↓reduceIte, reduceCtorEq, Nat.reduceAdd, Nat.reduceMul, Int.reduceToNat, List.reduceReplicate, Nat.reduceLeDiff, Nat.reduceLT, Int.reduceLT, Int.reduceLE, Int.reduceEq] <;> rfl) | (with_reducible apply call (c0)); (focus simp (maxSteps := 900000) (disch := omega) only [go_sem, Nat.reduceEqDiff, ↓reduceIte, reduceCtorEq, Nat.reduceAdd, Nat.reduceMul, Int.reduceToNat, List.reduceReplicate, Nat.reduceLeDiff, Nat.reduceLT, Int.reduceLT, Int.reduceLE, Int.reduceEq] <;> rfl) | (with_reducible apply call (k1)); (focus simp (maxSteps := 900000) (disch := omega) only [go_sem, Nat.reduceEqDiff, ↓reduceIte, reduceCtorEq, Nat.reduceAdd, Nat.reduceMul, Int.reduceToNat, List.reduceReplicate, Nat.reduceLeDiff, Nat.reduceLT, Int.reduceLT, Int.reduceLE, Int.reduceEq] <;> rfl) | with_reducible refine giv_intro fun _h => ?_ | with_reducible refine alt_intro ?_ fun _h => ?_ | with_reducible refine pickD_nil ?_ | (with_reducible refine brc (fun _h => ?_) fun _h => ?_) <;> first | (exfalso; omega) | simp only [decide_eq_false _h] | simp only [(_h : (_ : Bool) = _)] | simp only [decide_eq_true _h] | skip)
        (refine loopC hS [0, 1, 2, 7, 9, 11] (by simp only [go_sem, Nat.reduceEqDiff, ↓reduceIte, reduceCtorEq, Nat.reduceAdd, Nat.reduceMul, Int.reduceToNat, List.reduceReplicate, Nat.reduceLeDiff, Nat.reduceLT, Int.reduceLT, Int.reduceLE, Int.reduceEq]; try rfl) (fun (i : Nat) => [(10, intA (wrongL [] [] : Nat)), (12, intA 0)]) (fun (i : Nat) => []) (fun (i : Nat) => True) (fun (i : Nat) => 0) (0) ?h01 ?hn1 ?rd1; case hn1 => (intro s; first | rfl | (rcases s with ⟨_, _⟩; rfl) | (rcases s with ⟨_, _, _⟩; rfl) | (rcases s with ⟨_, _, _, _⟩; rfl) | (rcases s with ⟨_, _, _, _, _⟩; rfl)))
        · simp (maxSteps := 900000) (disch := omega) only [go_sem, Nat.reduceEqDiff, ↓reduceIte, reduceCtorEq, Nat.reduceAdd, Nat.reduceMul, Int.reduceToNat, List.reduceReplicate, Nat.reduceLeDiff, Nat.reduceLT, Int.reduceLT, Int.reduceLE, Int.reduceEq]
        rintro i _
        repeat' (first | with_reducible refine inw ?_ | simp (maxSteps := 900000) (disch := omega) only [go_sem, Nat.reduceEqDiff, ↓reduceIte, reduceCtorEq, Nat.reduceAdd, Nat.reduceMul, Int.reduceToNat, List.reduceReplicate, Nat.reduceLeDiff, Nat.reduceLT, Int.reduceLT, Int.reduceLE, Int.reduceEq] | (with_reducible apply call (k2)); (focus simp (maxSteps := 900000) (disch := omega) only [go_sem, Nat.reduceEqDiff, ↓reduceIte, reduceCtorEq, Nat.reduceAdd, Nat.reduceMul, Int.reduceToNat, List.reduceReplicate, Nat.reduceLeDiff, Nat.reduceLT, Int.reduceLT, Int.reduceLE, Int.reduceEq] <;> rfl) | (with_reducible apply call (k3)); (focus simp (maxSteps := 900000) (disch := omega) only [go_sem, Nat.reduceEqDiff, ↓reduceIte, reduceCtorEq, Nat.reduceAdd, Nat.reduceMul, Int.reduceToNat, List.reduceReplicate, Nat.reduceLeDiff, Nat.reduceLT, Int.reduceLT, Int.reduceLE, Int.reduceEq] <;> rfl) | (with_reducible apply call (k4)); (focus simp (maxSteps := 900000) (disch := omega) only [go_sem, Nat.reduceEqDiff, ↓reduceIte, reduceCtorEq, Nat.reduceAdd, Nat.reduceMul, Int.reduceToNat, List.reduceReplicate, Nat.reduceLeDiff, Nat.reduceLT, Int.reduceLT, Int.reduceLE, Int.reduceEq] <;> rfl) | (with_reducible apply call (known_ok)); (focus simp (maxSteps := 900000) (disch := omega) only [go_sem, Nat.reduceEqDiff, ↓reduceIte, reduceCtorEq, Nat.reduceAdd, Nat.reduceMul, Int.reduceToNat, List.reduceReplicate, Nat.reduceLeDiff, Nat.reduceLT, Int.reduceLT, Int.reduceLE, Int.reduceEq] <;> rfl) | with_reducible refine giv_intro fun _h => ?_ | with_reducible refine alt_intro ?_ fun _h => ?_ | with_reducible refine pickD_nil ?_ | (with_reducible refine brc (fun _h => ?_) fun _h => ?_) <;> first | (exfalso; omega) | simp only [decide_eq_false _h] | simp only [(_h : (_ : Bool) = _)] | simp only [decide_eq_true _h] | skip)
      · rw [kB, if_neg hq] at k2
        (refine fn_look s9_ok (by simp) (by intro k; simp only [go_sem, Nat.reduceEqDiff, ↓reduceIte, reduceCtorEq, Nat.reduceAdd, Nat.reduceMul, Int.reduceToNat, List.reduceReplicate, Nat.reduceLeDiff, Nat.reduceLT, Int.reduceLT, Int.reduceLE, Int.reduceEq]) fun S hS => cwp_sound _ _ _ _ ?_; simp (maxSteps := 900000) (disch := omega) only [s9, go_sem, Nat.reduceEqDiff, ↓reduceIte, reduceCtorEq, Nat.reduceAdd, Nat.reduceMul, Int.reduceToNat, List.reduceReplicate, Nat.reduceLeDiff, Nat.reduceLT, Int.reduceLT, Int.reduceLE, Int.reduceEq])
        repeat' (first | with_reducible refine inw ?_ | simp (maxSteps := 900000) (disch := omega) only [go_sem, Nat.reduceEqDiff, ↓reduceIte, reduceCtorEq, Nat.reduceAdd, Nat.reduceMul, Int.reduceToNat, List.reduceReplicate, Nat.reduceLeDiff, Nat.reduceLT, Int.reduceLT, Int.reduceLE, Int.reduceEq] | (with_reducible apply callR (over_ok [] hs)); (focus simp (maxSteps := 900000) (disch := omega) only [go_sem, Nat.reduceEqDiff, ↓reduceIte, reduceCtorEq, Nat.reduceAdd, Nat.reduceMul, Int.reduceToNat, List.reduceReplicate, Nat.reduceLeDiff, Nat.reduceLT, Int.reduceLT, Int.reduceLE, Int.reduceEq] <;> rfl); rintro _ ⟨_, rfl⟩ | (with_reducible apply call (known_ok)); (focus simp (maxSteps := 900000) (disch := omega) only [go_sem, Nat.reduceEqDiff, ↓reduceIte, reduceCtorEq, Nat.reduceAdd, Nat.reduceMul, Int.reduceToNat, List.reduceReplicate, Nat.reduceLeDiff, Nat.reduceLT, Int.reduceLT, Int.reduceLE, Int.reduceEq] <;> rfl) | (with_reducible apply call (c0)); (focus simp (maxSteps := 900000) (disch := omega) only [go_sem, Nat.reduceEqDiff, ↓reduceIte, reduceCtorEq, Nat.reduceAdd, Nat.reduceMul, Int.reduceToNat, List.reduceReplicate, Nat.reduceLeDiff, Nat.reduceLT, Int.reduceLT, Int.reduceLE, Int.reduceEq] <;> rfl) | (with_reducible apply call (k1)); (focus simp (maxSteps := 900000) (disch := omega) only [go_sem, Nat.reduceEqDiff, ↓reduceIte, reduceCtorEq, Nat.reduceAdd, Nat.reduceMul, Int.reduceToNat, List.reduceReplicate, Nat.reduceLeDiff, Nat.reduceLT, Int.reduceLT, Int.reduceLE, Int.reduceEq] <;> rfl) | with_reducible refine giv_intro fun _h => ?_ | with_reducible refine alt_intro ?_ fun _h => ?_ | with_reducible refine pickD_nil ?_ | (with_reducible refine brc (fun _h => ?_) fun _h => ?_) <;> first | (exfalso; omega) | simp only [decide_eq_false _h] | simp only [(_h : (_ : Bool) = _)] | simp only [decide_eq_true _h] | skip)
        (refine loopC hS [0, 1, 2, 7, 9, 11] (by simp only [go_sem, Nat.reduceEqDiff, ↓reduceIte, reduceCtorEq, Nat.reduceAdd, Nat.reduceMul, Int.reduceToNat, List.reduceReplicate, Nat.reduceLeDiff, Nat.reduceLT, Int.reduceLT, Int.reduceLE, Int.reduceEq]; try rfl) (fun (i : Nat) => [(10, intA (wrongL [] [] : Nat)), (12, intA 0)]) (fun (i : Nat) => []) (fun (i : Nat) => True) (fun (i : Nat) => 0) (0) ?h02 ?hn2 ?rd2; case hn2 => (intro s; first | rfl | (rcases s with ⟨_, _⟩; rfl) | (rcases s with ⟨_, _, _⟩; rfl) | (rcases s with ⟨_, _, _, _⟩; rfl) | (rcases s with ⟨_, _, _, _, _⟩; rfl)))
        · simp (maxSteps := 900000) (disch := omega) only [go_sem, Nat.reduceEqDiff, ↓reduceIte, reduceCtorEq, Nat.reduceAdd, Nat.reduceMul, Int.reduceToNat, List.reduceReplicate, Nat.reduceLeDiff, Nat.reduceLT, Int.reduceLT, Int.reduceLE, Int.reduceEq]
        rintro i _
        repeat' (first | with_reducible refine inw ?_ | simp (maxSteps := 900000) (disch := omega) only [go_sem, Nat.reduceEqDiff, ↓reduceIte, reduceCtorEq, Nat.reduceAdd, Nat.reduceMul, Int.reduceToNat, List.reduceReplicate, Nat.reduceLeDiff, Nat.reduceLT, Int.reduceLT, Int.reduceLE, Int.reduceEq] | (with_reducible apply call (k2)); (focus simp (maxSteps := 900000) (disch := omega) only [go_sem, Nat.reduceEqDiff, ↓reduceIte, reduceCtorEq, Nat.reduceAdd, Nat.reduceMul, Int.reduceToNat, List.reduceReplicate, Nat.reduceLeDiff, Nat.reduceLT, Int.reduceLT, Int.reduceLE, Int.reduceEq] <;> rfl) | (with_reducible apply call (k3)); (focus simp (maxSteps := 900000) (disch := omega) only [go_sem, Nat.reduceEqDiff, ↓reduceIte, reduceCtorEq, Nat.reduceAdd, Nat.reduceMul, Int.reduceToNat, List.reduceReplicate, Nat.reduceLeDiff, Nat.reduceLT, Int.reduceLT, Int.reduceLE, Int.reduceEq] <;> rfl) | (with_reducible apply call (k4)); (focus simp (maxSteps := 900000) (disch := omega) only [go_sem, Nat.reduceEqDiff, ↓reduceIte, reduceCtorEq, Nat.reduceAdd, Nat.reduceMul, Int.reduceToNat, List.reduceReplicate, Nat.reduceLeDiff, Nat.reduceLT, Int.reduceLT, Int.reduceLE, Int.reduceEq] <;> rfl) | (with_reducible apply call (known_ok)); (focus simp (maxSteps := 900000) (disch := omega) only [go_sem, Nat.reduceEqDiff, ↓reduceIte, reduceCtorEq, Nat.reduceAdd, Nat.reduceMul, Int.reduceToNat, List.reduceReplicate, Nat.reduceLeDiff, Nat.reduceLT, Int.reduceLT, Int.reduceLE, Int.reduceEq] <;> rfl) | with_reducible refine giv_intro fun _h => ?_ | with_reducible refine alt_intro ?_ fun _h => ?_ | with_reducible refine pickD_nil ?_ | (with_reducible refine brc (fun _h => ?_) fun _h => ?_) <;> first | (exfalso; omega) | simp only [decide_eq_false _h] | simp only [(_h : (_ : Bool) = _)] | simp only [decide_eq_true _h] | skip)
    · have big : ∀ (r2 : (Change × Int) × Int), bestT (chgs c ls) = r2 → (r2 = ((dfC, 0), 4) ∨ (r2 = (bestL (chgs c ls), 0))) → Fn P 9 [sl ls, intA least, intA most] (boolA true) := fun r2 er hr => by
        rw [er] at k2
        (refine fn_look s9_ok (by simp) (by intro k; simp only [go_sem, Nat.reduceEqDiff, ↓reduceIte, reduceCtorEq, Nat.reduceAdd, Nat.reduceMul, Int.reduceToNat, List.reduceReplicate, Nat.reduceLeDiff, Nat.reduceLT, Int.reduceLT, Int.reduceLE, Int.reduceEq]) fun S hS => cwp_sound _ _ _ _ ?_; simp (maxSteps := 900000) (disch := omega) only [s9, go_sem, Nat.reduceEqDiff, ↓reduceIte, reduceCtorEq, Nat.reduceAdd, Nat.reduceMul, Int.reduceToNat, List.reduceReplicate, Nat.reduceLeDiff, Nat.reduceLT, Int.reduceLT, Int.reduceLE, Int.reduceEq])
        repeat' (first | with_reducible refine inw ?_ | simp (maxSteps := 900000) (disch := omega) only [go_sem, Nat.reduceEqDiff, ↓reduceIte, reduceCtorEq, Nat.reduceAdd, Nat.reduceMul, Int.reduceToNat, List.reduceReplicate, Nat.reduceLeDiff, Nat.reduceLT, Int.reduceLT, Int.reduceLE, Int.reduceEq] | (with_reducible apply callR (over_ok ls hs)); (focus simp (maxSteps := 900000) (disch := omega) only [go_sem, Nat.reduceEqDiff, ↓reduceIte, reduceCtorEq, Nat.reduceAdd, Nat.reduceMul, Int.reduceToNat, List.reduceReplicate, Nat.reduceLeDiff, Nat.reduceLT, Int.reduceLT, Int.reduceLE, Int.reduceEq] <;> rfl); rintro _ ⟨_, rfl⟩ | (with_reducible apply call (known_ok)); (focus simp (maxSteps := 900000) (disch := omega) only [go_sem, Nat.reduceEqDiff, ↓reduceIte, reduceCtorEq, Nat.reduceAdd, Nat.reduceMul, Int.reduceToNat, List.reduceReplicate, Nat.reduceLeDiff, Nat.reduceLT, Int.reduceLT, Int.reduceLE, Int.reduceEq] <;> rfl) | (with_reducible apply call (c0)); (focus simp (maxSteps := 900000) (disch := omega) only [go_sem, Nat.reduceEqDiff, ↓reduceIte, reduceCtorEq, Nat.reduceAdd, Nat.reduceMul, Int.reduceToNat, List.reduceReplicate, Nat.reduceLeDiff, Nat.reduceLT, Int.reduceLT, Int.reduceLE, Int.reduceEq] <;> rfl) | (with_reducible apply call (k1)); (focus simp (maxSteps := 900000) (disch := omega) only [go_sem, Nat.reduceEqDiff, ↓reduceIte, reduceCtorEq, Nat.reduceAdd, Nat.reduceMul, Int.reduceToNat, List.reduceReplicate, Nat.reduceLeDiff, Nat.reduceLT, Int.reduceLT, Int.reduceLE, Int.reduceEq] <;> rfl) | with_reducible refine giv_intro fun _h => ?_ | with_reducible refine alt_intro ?_ fun _h => ?_ | with_reducible refine pickD_nil ?_ | (with_reducible refine brc (fun _h => ?_) fun _h => ?_) <;> first | (exfalso; omega) | simp only [decide_eq_false _h] | simp only [(_h : (_ : Bool) = _)] | simp only [decide_eq_true _h] | skip)
        (refine loopC hS [0, 1, 2, 7, 9, 11] (by simp only [go_sem, Nat.reduceEqDiff, ↓reduceIte, reduceCtorEq, Nat.reduceAdd, Nat.reduceMul, Int.reduceToNat, List.reduceReplicate, Nat.reduceLeDiff, Nat.reduceLT, Int.reduceLT, Int.reduceLE, Int.reduceEq]; try rfl) (fun (i : Nat) => [(10, intA (wrongL (c.take i) ls : Nat)), (12, intA i)]) (fun (i : Nat) => [rowO 56 (chgs (c.take i) ls)]) (fun (i : Nat) => i ≤ c.length) (fun (i : Nat) => c.length - i) (0) ?h03 ?hn3 ?rd3; case hn3 => (intro s; first | rfl | (rcases s with ⟨_, _⟩; rfl) | (rcases s with ⟨_, _, _⟩; rfl) | (rcases s with ⟨_, _, _, _⟩; rfl) | (rcases s with ⟨_, _, _, _, _⟩; rfl)))
        · simp (maxSteps := 900000) (disch := omega) only [go_sem, Nat.reduceEqDiff, ↓reduceIte, reduceCtorEq, Nat.reduceAdd, Nat.reduceMul, Int.reduceToNat, List.reduceReplicate, Nat.reduceLeDiff, Nat.reduceLT, Int.reduceLT, Int.reduceLE, Int.reduceEq]
          exact ⟨Nat.zero_le _, rfl⟩
        rintro i hi
        replace hi : i ≤ c.length := hi
        have hnl := chgs_len (c.take i) ls
        have b1 := hbd i
        have b2 := hbd (i + 1)
        by_cases hil : i < c.length
        · obtain ⟨v1, v2⟩ := hva i hi
          obtain ⟨q1, q2⟩ := hL.is i hil
          obtain ⟨⟨d1, d2⟩, d3⟩ := hch _ (nth_mem hil)
          have hkd := kd_ch d1
          have m1 := Wrong_ok (c.take (i + 1)) ls (sT _) hs
          rw [wT] at m1
          have m2 := Gain_ok (nth c i) (chgs (c.take i) ls) d3 v2
          have eg : gainT (nth c i) (chgs (c.take i) ls) = (gainL (nth c i) (chgs (c.take i) ls), 0) := by
            rw [gainT, if_neg (by simpa using valC_of (l := [nth c i]) (by simp) (by simpa using ⟨d1, d2⟩)), if_neg (by simpa using v1)]
          have ew : gainL (nth c i) (chgs (c.take i) ls) = (wrongL (c.take i) ls : Int) - wrongL (c.take (i + 1)) ls := by
            rw [gain_wrong (okLs v1), wrong_step hil, wrong_take i]
          have eb : gainL (nth c i) (chgs (c.take i) ls) = (bestL (chgs (c.take i) ls)).2 := by
            rw [q1]; exact (best_ch v1 v2 (by omega)).2.2.2.2.2
          rw [eg, ew] at m2
          rw [ew] at eb
          have ed : (c.drop i).take 1 = [nth c i] := by rw [nth_drop hil]; rfl
          repeat' (first | with_reducible refine inw ?_ | simp (maxSteps := 900000) (disch := omega) only [go_sem, Nat.reduceEqDiff, ↓reduceIte, reduceCtorEq, Nat.reduceAdd, Nat.reduceMul, Int.reduceToNat, List.reduceReplicate, Nat.reduceLeDiff, Nat.reduceLT, Int.reduceLT, Int.reduceLE, Int.reduceEq] | (with_reducible apply call (m1)); (focus simp (maxSteps := 900000) (disch := omega) only [go_sem, Nat.reduceEqDiff, ↓reduceIte, reduceCtorEq, Nat.reduceAdd, Nat.reduceMul, Int.reduceToNat, List.reduceReplicate, Nat.reduceLeDiff, Nat.reduceLT, Int.reduceLT, Int.reduceLE, Int.reduceEq] <;> rfl) | (with_reducible apply call_lend (m2)); (focus simp (maxSteps := 900000) (disch := omega) only [go_sem, Nat.reduceEqDiff, ↓reduceIte, reduceCtorEq, Nat.reduceAdd, Nat.reduceMul, Int.reduceToNat, List.reduceReplicate, Nat.reduceLeDiff, Nat.reduceLT, Int.reduceLT, Int.reduceLE, Int.reduceEq] <;> rfl); (focus rfl) | with_reducible refine giv_intro fun _h => ?_ | with_reducible refine alt_intro ?_ fun _h => ?_ | with_reducible refine pickD_nil ?_ | (with_reducible refine brc (fun _h => ?_) fun _h => ?_) <;> first | (exfalso; omega) | simp only [decide_eq_false _h] | simp only [(_h : (_ : Bool) = _)] | simp only [decide_eq_true _h] | skip)
          (refine loopC hS [0, 1, 2, 7, 9, 10, 11, 12] (by simp only [go_sem, Nat.reduceEqDiff, ↓reduceIte, reduceCtorEq, Nat.reduceAdd, Nat.reduceMul, Int.reduceToNat, List.reduceReplicate, Nat.reduceLeDiff, Nat.reduceLT, Int.reduceLT, Int.reduceLE, Int.reduceEq]; try rfl) (fun (k : Nat) => [(17, intA k)]) (fun (k : Nat) => [rowO 56 (chgI (nth c i) (chgs (c.take i) ls) k)]) (fun (k : Nat) => k ≤ ls.length) (fun (k : Nat) => ls.length - k) (0) ?h04 ?hn4 ?rd4; case hn4 => (intro s; first | rfl | (rcases s with ⟨_, _⟩; rfl) | (rcases s with ⟨_, _, _⟩; rfl) | (rcases s with ⟨_, _, _, _⟩; rfl) | (rcases s with ⟨_, _, _, _, _⟩; rfl)))
          · simp (maxSteps := 900000) (disch := omega) only [go_sem, Nat.reduceEqDiff, ↓reduceIte, reduceCtorEq, Nat.reduceAdd, Nat.reduceMul, Int.reduceToNat, List.reduceReplicate, Nat.reduceLeDiff, Nat.reduceLT, Int.reduceLT, Int.reduceLE, Int.reduceEq]
            exact ⟨Nat.zero_le _, rfl⟩
          rintro k hk
          replace hk : k ≤ ls.length := hk
          have hcl2 := chgI_len (nth c i) (chgs (c.take i) ls) k
          by_cases hkl : k < ls.length
          · have hkl1 : k < (chgs (c.take i) ls).length := by omega
            have hkl2 : k < (chgI (nth c i) (chgs (c.take i) ls) k).length := by omega
            have hx := (valL_ok v1).2 _ (nth_mem hkl1)
            obtain ⟨s1, s2, s3⟩ := v2 _ (nth_mem hkl1)
            have m3 := Run_ok [nth c i] (nth (chgs (c.take i) ls) k).1 (nth (chgs (c.take i) ls) k).2.1 (by simpa using d3) ⟨s1, s2, s2⟩
            rw [runT_one ⟨d1, d2⟩ hx] at m3
            have f0 := gl_0 hkl2
            have f1 := gl_1 hkl2
            have f2 := pl_1 hkl2 (doneL (nth c i) (nth (chgs (c.take i) ls) k).1 (nth (chgs (c.take i) ls) k).2.1)
            have f3 := chgI_put (c := nth c i) hkl1
            rw [chgI_nth hkl1] at f0 f1 f2
            rw [chgX] at f3
            rw [f3] at f2
            have e1 : ((i : Int) + 1).toNat - i = 1 := by omega
            repeat' (first | with_reducible refine inw ?_ | simp (maxSteps := 900000) (disch := omega) only [go_sem, Nat.reduceEqDiff, ↓reduceIte, reduceCtorEq, Nat.reduceAdd, Nat.reduceMul, Int.reduceToNat, List.reduceReplicate, Nat.reduceLeDiff, Nat.reduceLT, Int.reduceLT, Int.reduceLE, Int.reduceEq, e1, f0, f1, f2, ed] | (with_reducible apply call_D (m3)); (focus simp (maxSteps := 900000) (disch := omega) only [go_sem, Nat.reduceEqDiff, ↓reduceIte, reduceCtorEq, Nat.reduceAdd, Nat.reduceMul, Int.reduceToNat, List.reduceReplicate, Nat.reduceLeDiff, Nat.reduceLT, Int.reduceLT, Int.reduceLE, Int.reduceEq, e1, f0, f1, f2, ed] <;> rfl) | with_reducible refine giv_intro fun _h => ?_ | with_reducible refine alt_intro ?_ fun _h => ?_ | with_reducible refine pickD_nil ?_ | (with_reducible refine brc (fun _h => ?_) fun _h => ?_) <;> first | (exfalso; omega) | simp only [decide_eq_false _h] | simp only [(_h : (_ : Bool) = _)] | simp only [decide_eq_true _h] | skip)
            exact ⟨k + 1, ⟨by omega, by omega⟩, by omega, rfl⟩
          · have : k = ls.length := by omega
            subst this
            repeat' (first | with_reducible refine inw ?_ | simp (maxSteps := 900000) (disch := omega) only [go_sem, Nat.reduceEqDiff, ↓reduceIte, reduceCtorEq, Nat.reduceAdd, Nat.reduceMul, Int.reduceToNat, List.reduceReplicate, Nat.reduceLeDiff, Nat.reduceLT, Int.reduceLT, Int.reduceLE, Int.reduceEq] | with_reducible refine giv_intro fun _h => ?_ | with_reducible refine alt_intro ?_ fun _h => ?_ | with_reducible refine pickD_nil ?_ | (with_reducible refine brc (fun _h => ?_) fun _h => ?_) <;> first | (exfalso; omega) | simp only [decide_eq_false _h] | simp only [(_h : (_ : Bool) = _)] | simp only [decide_eq_true _h] | skip)
            refine ⟨i + 1, ⟨by omega, by omega⟩, ⟨rfl, by omega⟩, ?_⟩
            rw [chgs_step hil, chgI, List.take_of_length_le (by omega), List.drop_eq_nil_of_le (by omega), List.append_nil]
        · have : i = c.length := by omega
          subst this
          rw [List.take_length] at hnl
          rw [List.take_length]
          repeat' (first | with_reducible refine inw ?_ | simp (maxSteps := 900000) (disch := omega) only [go_sem, Nat.reduceEqDiff, ↓reduceIte, reduceCtorEq, Nat.reduceAdd, Nat.reduceMul, Int.reduceToNat, List.reduceReplicate, Nat.reduceLeDiff, Nat.reduceLT, Int.reduceLT, Int.reduceLE, Int.reduceEq, hnl] | (with_reducible apply call_lendZ (k2)); (focus simp (maxSteps := 900000) (disch := omega) only [go_sem, Nat.reduceEqDiff, ↓reduceIte, reduceCtorEq, Nat.reduceAdd, Nat.reduceMul, Int.reduceToNat, List.reduceReplicate, Nat.reduceLeDiff, Nat.reduceLT, Int.reduceLT, Int.reduceLE, Int.reduceEq, hnl] <;> rfl); (focus rfl) | (with_reducible apply call (k3)); (focus simp (maxSteps := 900000) (disch := omega) only [go_sem, Nat.reduceEqDiff, ↓reduceIte, reduceCtorEq, Nat.reduceAdd, Nat.reduceMul, Int.reduceToNat, List.reduceReplicate, Nat.reduceLeDiff, Nat.reduceLT, Int.reduceLT, Int.reduceLE, Int.reduceEq, hnl] <;> rfl) | (with_reducible apply call (k4)); (focus simp (maxSteps := 900000) (disch := omega) only [go_sem, Nat.reduceEqDiff, ↓reduceIte, reduceCtorEq, Nat.reduceAdd, Nat.reduceMul, Int.reduceToNat, List.reduceReplicate, Nat.reduceLeDiff, Nat.reduceLT, Int.reduceLT, Int.reduceLE, Int.reduceEq, hnl] <;> rfl) | (with_reducible apply call (known_ok)); (focus simp (maxSteps := 900000) (disch := omega) only [go_sem, Nat.reduceEqDiff, ↓reduceIte, reduceCtorEq, Nat.reduceAdd, Nat.reduceMul, Int.reduceToNat, List.reduceReplicate, Nat.reduceLeDiff, Nat.reduceLT, Int.reduceLT, Int.reduceLE, Int.reduceEq, hnl] <;> rfl) | with_reducible refine giv_intro fun _h => ?_ | with_reducible refine alt_intro ?_ fun _h => ?_ | with_reducible refine pickD_nil ?_ | (with_reducible refine brc (fun _h => ?_) fun _h => ?_) <;> first | (exfalso; omega) | simp only [decide_eq_false _h] | simp only [(_h : (_ : Bool) = _)] | simp only [decide_eq_true _h] | skip)
          all_goals
            rcases hr with rfl | rfl
            · have q : least ≤ 0 := _h
              omega
            · have q : least ≤ (bestL (chgs c ls)).2 := _h
              have := hstop (by omega)
              omega
      by_cases hq : (bestL (chgs c ls)).2 < 1
      · exact big _ (by rw [kB, if_pos hq]) (.inl rfl)
      · exact big _ (by rw [kB, if_neg hq]) (.inr rfl)
  · have e0 : (learnT ls least most).1 = [] := by
      rw [learnT] at he ⊢
      split
      · rfl
      · rename_i h1
        rw [if_neg h1] at he
        split
        · rfl
        · rename_i h2
          rw [if_neg h2] at he
          exact absurd rfl he
    have e1 : learnT ls least most = ([], (learnT ls least most).2) := by rw [← e0]
    rw [e1] at c0
    generalize (learnT ls least most).2 = e at he c0
    (refine fn_look s9_ok (by simp) (by intro k; simp only [go_sem, Nat.reduceEqDiff, ↓reduceIte, reduceCtorEq, Nat.reduceAdd, Nat.reduceMul, Int.reduceToNat, List.reduceReplicate, Nat.reduceLeDiff, Nat.reduceLT, Int.reduceLT, Int.reduceLE, Int.reduceEq]) fun S hS => cwp_sound _ _ _ _ ?_; simp (maxSteps := 900000) (disch := omega) only [s9, go_sem, Nat.reduceEqDiff, ↓reduceIte, reduceCtorEq, Nat.reduceAdd, Nat.reduceMul, Int.reduceToNat, List.reduceReplicate, Nat.reduceLeDiff, Nat.reduceLT, Int.reduceLT, Int.reduceLE, Int.reduceEq])
    repeat' (first | with_reducible refine inw ?_ | simp (maxSteps := 900000) (disch := omega) only [go_sem, Nat.reduceEqDiff, ↓reduceIte, reduceCtorEq, Nat.reduceAdd, Nat.reduceMul, Int.reduceToNat, List.reduceReplicate, Nat.reduceLeDiff, Nat.reduceLT, Int.reduceLT, Int.reduceLE, Int.reduceEq] | (with_reducible apply callR (over_ok ls hs)); (focus simp (maxSteps := 900000) (disch := omega) only [go_sem, Nat.reduceEqDiff, ↓reduceIte, reduceCtorEq, Nat.reduceAdd, Nat.reduceMul, Int.reduceToNat, List.reduceReplicate, Nat.reduceLeDiff, Nat.reduceLT, Int.reduceLT, Int.reduceLE, Int.reduceEq] <;> rfl); rintro _ ⟨_, rfl⟩ | (with_reducible apply call (known_ok)); (focus simp (maxSteps := 900000) (disch := omega) only [go_sem, Nat.reduceEqDiff, ↓reduceIte, reduceCtorEq, Nat.reduceAdd, Nat.reduceMul, Int.reduceToNat, List.reduceReplicate, Nat.reduceLeDiff, Nat.reduceLT, Int.reduceLT, Int.reduceLE, Int.reduceEq] <;> rfl) | (with_reducible apply call (c0)); (focus simp (maxSteps := 900000) (disch := omega) only [go_sem, Nat.reduceEqDiff, ↓reduceIte, reduceCtorEq, Nat.reduceAdd, Nat.reduceMul, Int.reduceToNat, List.reduceReplicate, Nat.reduceLeDiff, Nat.reduceLT, Int.reduceLT, Int.reduceLE, Int.reduceEq] <;> rfl) | with_reducible refine giv_intro fun _h => ?_ | with_reducible refine alt_intro ?_ fun _h => ?_ | with_reducible refine pickD_nil ?_ | (with_reducible refine brc (fun _h => ?_) fun _h => ?_) <;> first | (exfalso; omega) | simp only [decide_eq_false _h] | simp only [(_h : (_ : Bool) = _)] | simp only [decide_eq_true _h] | skip)
end Go.Proofs.Ytapgimibdamjoaa.Ev

/- Levels of places: the walks. -/
import Derived.Test.YtfihpbeihlpfcaaZFnOj
set_option linter.unusedVariables false
set_option linter.unusedSimpArgs false
namespace Go.Proofs.Ytfihpbeihlpfcaa.Ev
open Go Go.Proofs

theorem cells2_1 {l : List (List Str × List Int)} {i : Nat} (h : i < l.length) : (cellsL l)[i * 2 + 1]? = some (sl (nth l i).2) := by
  have h1 := cellsL_drop l i
  rw [nth_drop h] at h1
  have h2 := congrArg (fun x : List AV => x[1]?) h1
  simp only [List.getElem?_drop] at h2
  rw [h2]; rfl
def okSt (s w : List Str) (p i : Nat) : Bool := decide (p + i ≤ w.length + 1) && decide (exS w (p + i) = some (nth s i))
theorem okSt_edge {s w : List Str} {p i : Nat} (h : p + i = 0 ∨ p + i = w.length + 1) : okSt s w p i = decide (nth s i = edgeS) := by
  unfold okSt exS
  rw [decide_eq_true (show p + i ≤ w.length + 1 by omega), if_pos (by omega), Bool.true_and]
  exact decide_eq_decide.2 ⟨fun h => (Option.some.inj h).symm, fun h => by rw [h]⟩
theorem okSt_out {s w : List Str} {p i : Nat} (h : w.length + 1 < p + i) : okSt s w p i = false := by
  unfold okSt
  rw [decide_eq_false (by omega)]; rfl
theorem okSt_in {s w : List Str} {p i : Nat} (h : 1 ≤ p + i) (h2 : p + i ≤ w.length) : okSt s w p i = decide (nth s i ≠ edgeS ∧ nth s i = nth w (p + i - 1)) := by
  unfold okSt exS
  rw [decide_eq_true (show p + i ≤ w.length + 1 by omega), if_neg (by omega), Bool.true_and]
  by_cases e : nth w (p + i - 1) = edgeS
  · rw [if_pos e]
    exact (decide_eq_false (fun h => nomatch h)).trans (decide_eq_false fun h => h.1 (h.2.trans e)).symm
  · rw [if_neg e]
    exact decide_eq_decide.2 ⟨fun h => ⟨fun h3 => e ((Option.some.inj h).trans h3), (Option.some.inj h).symm⟩, fun h => by rw [h.2]⟩
/-- ablaut/ablautref24.stands: 3 parameters, 0 captured -/
def s76 : SC := .seq (.reg [o1 6 (.mv (cB false))])
  (.seq (.seq (.reg [o1 7 (.mv (cI 0))])
    (.block 0 (.loop (.seq (.seq (.reg [o1 10 (.mv (.t 7)),
         o1 11 (.mv (.t 0)),
         o1 12 (.lenL (.t 11)),
         o1 13 (.bin .lss (.t 10) (.t 12))])
        (.cond (.t 13) (.skip) (.exit 0)))
       (.seq (.block 1 (.seq (.reg [o1 16 (.mv (.t 2)),
           o1 17 (.mv (.t 7)),
           o1 18 (.bin .add (.t 16) (.t 17)),
           o1 8 (.mv (.t 18))])
          (.seq (.reg [o1 19 (.mv (.t 8)),
            o1 20 (.bin .eql (.t 19) (cI (-1))),
            o1 21 (.mv (.t 20)),
            oF 22 (.mv (.t 8)) 21,
            oF 23 (.mv (.t 1)) 21,
            oF 24 (.lenL (.t 23)) 21,
            oF 25 (.bin .eql (.t 22) (.t 24)) 21,
            o1 26 (.pick (.t 21) (cB true) (.t 25)),
            o1 9 (.mv (.t 26))])
           (.seq (.regD [o1 27 (.mv (.t 8)),
             o1 28 (.bin .lss (.t 27) (cI (-1))),
             o1 29 (.mv (.t 28)),
             oF 30 (.mv (.t 8)) 29,
             oF 31 (.mv (.t 1)) 29,
             oF 32 (.lenL (.t 31)) 29,
             oF 33 (.bin .gtr (.t 30) (.t 32)) 29,
             o1 34 (.pick (.t 29) (cB true) (.t 33)),
             o1 35 (.mv (.t 34)),
             oF 36 (.mv (.t 0)) 35,
             oF 37 (.mv (.t 7)) 35,
             oF 38 (.iaddr 1 (.t 36) (.t 37)) 35,
             oF 39 (.load none (.t 38)) 35,
             oF 40 (.bin .eql (.t 39) (.c (.string ⟨#[46]⟩))) 35,
             oF 41 (.mv (.t 9)) 35,
             oF 42 (.eq true .bool (.t 40) (.t 41)) 35,
             o1 43 (.pick (.t 35) (cB true) (.t 42)),
             o1 44 (.mv (.t 43)),
             oF 45 (.mv (.t 9)) 44,
             oF 46 (.un .not (.t 45)) 44,
             oF 47 (.mv (.t 46)) 44,
             oT 48 (.mv (.t 0)) 47,
             oT 49 (.mv (.t 7)) 47,
             oT 50 (.iaddr 1 (.t 48) (.t 49)) 47,
             oT 51 (.load none (.t 50)) 47,
             oT 52 (.mv (.t 1)) 47,
             oT 53 (.mv (.t 8)) 47,
             oT 54 (.iaddr 1 (.t 52) (.t 53)) 47,
             oT 55 (.load none (.t 54)) 47,
             oT 56 (.bin .neq (.t 51) (.t 55)) 47,
             oF 57 (.pick (.t 47) (.t 56) (cB false)) 44,
             o1 58 (.pick (.t 44) (cB true) (.t 57))])
            (.cond (.t 58) (.seq (.reg [o1 6 (.mv (cB false))])
              (.ret)) (.skip))))))
        (.reg [o1 14 (.mv (.t 7)),
         o1 15 (.bin .add (.t 14) (cI 1)),
         o1 7 (.mv (.t 15))]))))))
   (.seq (.reg [o1 6 (.mv (cB true))])
    (.ret)))
theorem s76_ok : lookF Try.prog 76 = some (s76, 59, [.tmp 6]) := by kernel_rfl
theorem stands_ok (s w : List Str) (p : Nat) (hw : w.length ≤ 1000) (hs : s.length ≤ 1000) (hp : p ≤ w.length + 1) : Fn P 76 [sl s, sl w, intA ((p : Int) - 1)] (boolA (standB s w p)) := by
  (refine fn_look s76_ok (by simp) (by intro k; simp only [go_sem, Nat.reduceEqDiff, ↓reduceIte, reduceCtorEq, Nat.reduceAdd, Nat.reduceMul, Int.reduceToNat, List.reduceReplicate, Nat.reduceLeDiff, Nat.reduceLT, Int.reduceLT, Int.reduceLE, Int.reduceEq]) fun S hS => cwp_sound _ _ _ _ ?_; simp (maxSteps := 900000) (disch := omega) only [s76, go_sem, Nat.reduceEqDiff, ↓reduceIte, reduceCtorEq, Nat.reduceAdd, Nat.reduceMul, Int.reduceToNat, List.reduceReplicate, Nat.reduceLeDiff, Nat.reduceLT, Int.reduceLT, Int.reduceLE, Int.reduceEq])
  (refine loopC hS [0, 1, 2] (by simp only [go_sem, Nat.reduceEqDiff, ↓reduceIte, reduceCtorEq, Nat.reduceAdd, Nat.reduceMul, Int.reduceToNat, List.reduceReplicate, Nat.reduceLeDiff, Nat.reduceLT, Int.reduceLT, Int.reduceLE, Int.reduceEq]; try rfl) (fun (i : Nat) => [(7, intA i)]) (fun (i : Nat) => []) (fun (i : Nat) => i ≤ s.length ∧ ∀ j, j < i → okSt s w p j = true) (fun (i : Nat) => s.length - i) (0) ?_ (by intro s; first | (simp only [List.length_cons, List.length_nil]; done) | rfl | (rcases s with ⟨_, _⟩; rfl) | (rcases s with ⟨_, _, _⟩; rfl) | (rcases s with ⟨_, _, _, _⟩; rfl) | (rcases s with ⟨_, _, _, _, _⟩; rfl)) ?_)
  · simp (maxSteps := 900000) (disch := omega) only [go_sem, Nat.reduceEqDiff, ↓reduceIte, reduceCtorEq, Nat.reduceAdd, Nat.reduceMul, Int.reduceToNat, List.reduceReplicate, Nat.reduceLeDiff, Nat.reduceLT, Int.reduceLT, Int.reduceLE, Int.reduceEq]
    exact ⟨Nat.zero_le _, fun j hj => absurd hj (Nat.not_lt_zero _)⟩
  rintro i ⟨hi, hI⟩
  replace hi : i ≤ s.length := hi
  replace hI : ∀ j, j < i → okSt s w p j = true := hI
  by_cases hil : i < s.length
  · have no : okSt s w p i = false → standB s w p = false := fun h => range_no hil h
    have yes : okSt s w p i = true → ∀ j, j < i + 1 → okSt s w p j = true := fun h => step_all hI h
    have e1 : ((p : Int) - 1 + i).toNat = p + i - 1 := by omega
    have oA := @okSt_edge s w p i
    have oB := @okSt_out s w p i
    have oC := @okSt_in s w p i
    generalize okSt s w p i = z at *
    repeat' (first | with_reducible refine inw ?_ | simp (maxSteps := 900000) (disch := omega) only [go_sem, Nat.reduceEqDiff, ↓reduceIte, reduceCtorEq, Nat.reduceAdd, Nat.reduceMul, Int.reduceToNat, List.reduceReplicate, Nat.reduceLeDiff, Nat.reduceLT, Int.reduceLT, Int.reduceLE, Int.reduceEq, e1] | with_reducible refine pickB_f ?_ | with_reducible refine giv_intro fun _h => ?_ | with_reducible refine alt_intro ?_ fun _h => ?_ | with_reducible refine pickD_nil ?_ | (with_reducible refine brc (fun _h => ?_) fun _h => ?_) <;> first | (exfalso; omega) | simp only [decide_eq_false _h] | simp only [(_h : (_ : Bool) = _)] | simp only [decide_eq_true _h] | skip)
    · exact (no ((oA (by omega)).trans (decide_eq_false (by simpa using _h)))).symm
    · exact ⟨i + 1, ⟨by omega, by omega, yes ((oA (by omega)).trans (decide_eq_true (by simpa using _h)))⟩, by omega⟩
    · exact (no (oB (by omega))).symm
    · by_cases e : (p : Int) - 1 + i = w.length
      · rw [decide_eq_true e] at _h
        exact (no ((oA (by omega)).trans (decide_eq_false (by simpa using _h)))).symm
      · rw [decide_eq_false e] at _h
        exact (no ((oC (by omega) (by omega)).trans (decide_eq_false fun q => q.1 (by simpa using _h)))).symm
    · exact (no ((oC (by omega) (by omega)).trans (decide_eq_false fun q => _h q.2))).symm
    · rename_i g1 g2
      rw [decide_eq_false g2] at g1
      exact ⟨i + 1, ⟨by omega, by omega, yes ((oC (by omega) (by omega)).trans (decide_eq_true ⟨by simpa using g1, _h⟩))⟩, by omega⟩
    · rename_i g1
      rw [decide_eq_true _h] at g1
      exact ⟨i + 1, ⟨by omega, by omega, yes ((oA (by omega)).trans (decide_eq_true (by simpa using g1)))⟩, by omega⟩
  · have yes : standB s w p = true := range_yes fun j hj => hI j (by omega)
    repeat' (first | with_reducible refine inw ?_ | simp (maxSteps := 900000) (disch := omega) only [go_sem, Nat.reduceEqDiff, ↓reduceIte, reduceCtorEq, Nat.reduceAdd, Nat.reduceMul, Int.reduceToNat, List.reduceReplicate, Nat.reduceLeDiff, Nat.reduceLT, Int.reduceLT, Int.reduceLE, Int.reduceEq] | with_reducible refine pickB_f ?_ | with_reducible refine giv_intro fun _h => ?_ | with_reducible refine alt_intro ?_ fun _h => ?_ | with_reducible refine pickD_nil ?_ | (with_reducible refine brc (fun _h => ?_) fun _h => ?_) <;> first | (exfalso; omega) | simp only [decide_eq_false _h] | simp only [(_h : (_ : Bool) = _)] | simp only [decide_eq_true _h] | skip)
    exact yes.symm
theorem tsetI {l : List Int} {i : Nat} {x : Int} (h : i < l.length) : l.take i ++ [x] ++ l.drop (i + 1) = l.set i x := by
  rw [List.set_eq_take_append_cons_drop, if_pos h]; simp
/-- ablaut/ablautref24.levels: 2 parameters, 0 captured -/
def s41 : SC := .seq (.reg [o1 4 (.mv (.c (.slice none 0 0)))])
  (.seq (.reg [o1 10 (.mv (.t 1)),
    o1 11 (.lenL (.t 10)),
    o1 12 (.bin .add (.t 11) (cI 1)),
    o1 13 (.mksl 3 1 8 [(.int .i64 0)] (.t 12) (.t 12)),
    o1 5 (.mv (.t 13))])
   (.seq (.seq (.reg [o1 6 (.mv (cI 0))])
     (.block 0 (.loop (.seq (.seq (.reg [o1 14 (.mv (.t 6)),
          o1 15 (.mv (.t 0)),
          o1 16 (.lenL (.t 15)),
          o1 17 (.bin .lss (.t 14) (.t 16))])
         (.cond (.t 17) (.skip) (.exit 0)))
        (.seq (.block 1 (.seq (.reg [o1 7 (.mv (cI (-1)))])
           (.block 2 (.loop (.seq (.seq (.reg [o1 20 (.mv (.t 7)),
                o1 21 (.mv (.t 1)),
                o1 22 (.lenL (.t 21)),
                o1 23 (.bin .leq (.t 20) (.t 22))])
               (.cond (.t 23) (.skip) (.exit 2)))
              (.seq (.block 3 (.seq (.seq (.reg [o1 26 (.mv (.t 0)),
                   o1 27 (.mv (.t 6)),
                   o1 28 (.iaddr 2 (.t 26) (.t 27)),
                   o1 29 (.faddr 0 (.t 28)),
                   o1 30 (.load none (.t 29)),
                   o1 31 (.mv (.t 1)),
                   o1 32 (.mv (.t 7)),
                   o1 33 (.call (.f 76) [(.t 30), (.t 31), (.t 32)]),
                   o1 34 (.un .not (.t 33))])
                  (.cond (.t 34) (.exit 3) (.skip)))
                 (.seq (.reg [o1 8 (.mv (cI 0))])
                  (.block 4 (.loop (.seq (.seq (.reg [o1 35 (.mv (.t 8)),
                       o1 36 (.mv (.t 0)),
                       o1 37 (.mv (.t 6)),
                       o1 38 (.iaddr 2 (.t 36) (.t 37)),
                       o1 39 (.faddr 1 (.t 38)),
                       o1 40 (.load none (.t 39)),
                       o1 41 (.lenL (.t 40)),
                       o1 42 (.bin .lss (.t 35) (.t 41))])
                      (.cond (.t 42) (.skip) (.exit 4)))
                     (.seq (.block 5 (.seq (.reg [o1 45 (.mv (.t 7)),
                         o1 46 (.mv (.t 8)),
                         o1 47 (.bin .add (.t 45) (.t 46)),
                         o1 9 (.mv (.t 47))])
                        (.seq (.reg [o1 48 (.mv (.t 9)),
                          o1 49 (.bin .geq (.t 48) (cI 0)),
                          o1 50 (.mv (.t 49)),
                          oT 51 (.mv (.t 9)) 50,
                          oT 52 (.mv (.t 1)) 50,
                          oT 53 (.lenL (.t 52)) 50,
                          oT 54 (.bin .leq (.t 51) (.t 53)) 50,
                          o1 55 (.pick (.t 50) (.t 54) (cB false))])
                         (.cond (.t 55) (.regE [o1 56 (.mv (.t 5)),
                           o1 57 (.mv (.t 9)),
                           o1 58 (.mv (.t 5)),
                           o1 59 (.mv (.t 9)),
                           o1 60 (.iaddr 1 (.t 58) (.t 59)),
                           o1 61 (.load none (.t 60)),
                           o1 62 (.mv (.t 0)),
                           o1 63 (.mv (.t 6)),
                           o1 64 (.iaddr 2 (.t 62) (.t 63)),
                           o1 65 (.faddr 1 (.t 64)),
                           o1 66 (.load none (.t 65)),
                           o1 67 (.mv (.t 8)),
                           o1 68 (.iaddr 1 (.t 66) (.t 67)),
                           o1 69 (.load none (.t 68)),
                           o1 70 (.max (.t 61) (.t 69)),
                           o1 71 (.iaddr 1 (.t 56) (.t 57)),
                           o0 (.store 1 (.t 71) (.t 70))]) (.skip)))))
                      (.reg [o1 43 (.mv (.t 8)),
                       o1 44 (.bin .add (.t 43) (cI 1)),
                       o1 8 (.mv (.t 44))]))))))))
               (.reg [o1 24 (.mv (.t 7)),
                o1 25 (.bin .add (.t 24) (cI 1)),
                o1 7 (.mv (.t 25))])))))))
         (.reg [o1 18 (.mv (.t 6)),
          o1 19 (.bin .add (.t 18) (cI 1)),
          o1 6 (.mv (.t 19))]))))))
    (.seq (.reg [o1 72 (.mv (.t 5)),
      o1 4 (.mv (.t 72))])
     (.ret))))
theorem s41_ok : lookF Try.prog 41 = some (s41, 73, [.tmp 4]) := by kernel_rfl
set_option maxHeartbeats 1000000 in
theorem rLevels_ok (ps : List Pat) (w : List Str) (hw : w.length ≤ 60) (hps : ∀ p ∈ ps, p.1.length ≤ 60 ∧ p.2.length ≤ 61) : Fn P 41 [sl ps, sl w] (sl (allR ps w ps.length)) := by
  (refine fn_look s41_ok (by simp) (by intro k; simp only [go_sem, Nat.reduceEqDiff, ↓reduceIte, reduceCtorEq, Nat.reduceAdd, Nat.reduceMul, Int.reduceToNat, List.reduceReplicate, Nat.reduceLeDiff, Nat.reduceLT, Int.reduceLT, Int.reduceLE, Int.reduceEq]) fun S hS => cwp_sound _ _ _ _ ?_; simp (maxSteps := 900000) (disch := omega) only [s41, go_sem, Nat.reduceEqDiff, ↓reduceIte, reduceCtorEq, Nat.reduceAdd, Nat.reduceMul, Int.reduceToNat, List.reduceReplicate, Nat.reduceLeDiff, Nat.reduceLT, Int.reduceLT, Int.reduceLE, Int.reduceEq])
  repeat' (first | with_reducible refine inw ?_ | simp (maxSteps := 900000) (disch := omega) only [go_sem, Nat.reduceEqDiff, ↓reduceIte, reduceCtorEq, Nat.reduceAdd, Nat.reduceMul, Int.reduceToNat, List.reduceReplicate, Nat.reduceLeDiff, Nat.reduceLT, Int.reduceLT, Int.reduceLE, Int.reduceEq] | with_reducible refine pickB_f ?_ | with_reducible refine giv_intro fun _h => ?_ | with_reducible refine alt_intro ?_ fun _h => ?_ | with_reducible refine pickD_nil ?_ | (with_reducible refine brc (fun _h => ?_) fun _h => ?_) <;> first | (exfalso; omega) | simp only [decide_eq_false _h] | simp only [(_h : (_ : Bool) = _)] | simp only [decide_eq_true _h] | skip)
  (refine loopC hS [0, 1, 5] (by simp only [go_sem, Nat.reduceEqDiff, ↓reduceIte, reduceCtorEq, Nat.reduceAdd, Nat.reduceMul, Int.reduceToNat, List.reduceReplicate, Nat.reduceLeDiff, Nat.reduceLT, Int.reduceLT, Int.reduceLE, Int.reduceEq]; try rfl) (fun (i : Nat) => [(6, intA i)]) (fun (i : Nat) => [rowO 3 (allR ps w i)]) (fun (i : Nat) => i ≤ ps.length) (fun (i : Nat) => ps.length - i) (0) ?_ (by intro s; first | (simp only [List.length_cons, List.length_nil]; done) | rfl | (rcases s with ⟨_, _⟩; rfl) | (rcases s with ⟨_, _, _⟩; rfl) | (rcases s with ⟨_, _, _, _⟩; rfl) | (rcases s with ⟨_, _, _, _, _⟩; rfl)) ?_)
  · simp (maxSteps := 900000) (disch := omega) only [go_sem, Nat.reduceEqDiff, ↓reduceIte, reduceCtorEq, Nat.reduceAdd, Nat.reduceMul, Int.reduceToNat, List.reduceReplicate, Nat.reduceLeDiff, Nat.reduceLT, Int.reduceLT, Int.reduceLE, Int.reduceEq]
    exact ⟨Nat.zero_le _, by rw [allR, show ((w.length : Int) + 1).toNat = w.length + 1 by omega]⟩
  rintro i hi
  replace hi : i ≤ ps.length := hi
  have hal := allR_len ps w i
  by_cases hil : i < ps.length
  · have hst : allR ps w (i + 1) = rowR w (nth ps i) (allR ps w i) (w.length + 2) := rfl
    obtain ⟨b1, b2⟩ := hps _ (nth_mem hil)
    have eD : (cellsL ps)[i * 2]? = some (sl (nth ps i).1) := cells2_0 hil
    have eE : (cellsL ps)[i * 2 + 1]? = some (sl (nth ps i).2) := cells2_1 hil
    generalize hA2 : allR ps w (i + 1) = A2 at *
    generalize allR ps w i = A at *
    repeat' (first | with_reducible refine inw ?_ | simp (maxSteps := 900000) (disch := omega) only [go_sem, Nat.reduceEqDiff, ↓reduceIte, reduceCtorEq, Nat.reduceAdd, Nat.reduceMul, Int.reduceToNat, List.reduceReplicate, Nat.reduceLeDiff, Nat.reduceLT, Int.reduceLT, Int.reduceLE, Int.reduceEq] | with_reducible refine pickB_f ?_ | with_reducible refine giv_intro fun _h => ?_ | with_reducible refine alt_intro ?_ fun _h => ?_ | with_reducible refine pickD_nil ?_ | (with_reducible refine brc (fun _h => ?_) fun _h => ?_) <;> first | (exfalso; omega) | simp only [decide_eq_false _h] | simp only [(_h : (_ : Bool) = _)] | simp only [decide_eq_true _h] | skip)
    (refine loopC hS [0, 1, 5, 6] (by simp only [go_sem, Nat.reduceEqDiff, ↓reduceIte, reduceCtorEq, Nat.reduceAdd, Nat.reduceMul, Int.reduceToNat, List.reduceReplicate, Nat.reduceLeDiff, Nat.reduceLT, Int.reduceLT, Int.reduceLE, Int.reduceEq]; try rfl) (fun (p : Nat) => [(7, intA ((p : Int) - 1))]) (fun (p : Nat) => [rowO 3 (rowR w (nth ps i) A p)]) (fun (p : Nat) => p ≤ w.length + 2) (fun (p : Nat) => w.length + 2 - p) (0) ?_ (by intro s; first | (simp only [List.length_cons, List.length_nil]; done) | rfl | (rcases s with ⟨_, _⟩; rfl) | (rcases s with ⟨_, _, _⟩; rfl) | (rcases s with ⟨_, _, _, _⟩; rfl) | (rcases s with ⟨_, _, _, _, _⟩; rfl)) ?_)
    · simp (maxSteps := 900000) (disch := omega) only [go_sem, Nat.reduceEqDiff, ↓reduceIte, reduceCtorEq, Nat.reduceAdd, Nat.reduceMul, Int.reduceToNat, List.reduceReplicate, Nat.reduceLeDiff, Nat.reduceLT, Int.reduceLT, Int.reduceLE, Int.reduceEq]
      exact ⟨by omega, rfl⟩
    rintro p hp
    replace hp : p ≤ w.length + 2 := hp
    have hrl := rowR_len w (nth ps i) A p
    by_cases hpl : p < w.length + 2
    · have hst2 : rowR w (nth ps i) A (p + 1) = if standB (nth ps i).1 w p = true then updR w.length (rowR w (nth ps i) A p) (nth ps i).2 p (nth ps i).2.length else rowR w (nth ps i) A p := rfl
      have c1 := stands_ok (nth ps i).1 w p (by omega) (by omega) (by omega)
      generalize hB2 : rowR w (nth ps i) A (p + 1) = B2 at *
      generalize rowR w (nth ps i) A p = B at *
      cases hs : standB (nth ps i).1 w p
      · rw [hs] at c1
        rw [hs, if_neg (by decide)] at hst2
        repeat' (first | with_reducible refine inw ?_ | simp (maxSteps := 900000) (disch := omega) only [go_sem, Nat.reduceEqDiff, ↓reduceIte, reduceCtorEq, Nat.reduceAdd, Nat.reduceMul, Int.reduceToNat, List.reduceReplicate, Nat.reduceLeDiff, Nat.reduceLT, Int.reduceLT, Int.reduceLE, Int.reduceEq, eD, eE] | (with_reducible apply call (c1)); (focus simp (maxSteps := 900000) (disch := omega) only [go_sem, Nat.reduceEqDiff, ↓reduceIte, reduceCtorEq, Nat.reduceAdd, Nat.reduceMul, Int.reduceToNat, List.reduceReplicate, Nat.reduceLeDiff, Nat.reduceLT, Int.reduceLT, Int.reduceLE, Int.reduceEq, eD, eE] <;> rfl) | with_reducible refine pickB_f ?_ | with_reducible refine giv_intro fun _h => ?_ | with_reducible refine alt_intro ?_ fun _h => ?_ | with_reducible refine pickD_nil ?_ | (with_reducible refine brc (fun _h => ?_) fun _h => ?_) <;> first | (exfalso; omega) | simp only [decide_eq_false _h] | simp only [(_h : (_ : Bool) = _)] | simp only [decide_eq_true _h] | skip)
        exact ⟨p + 1, ⟨by omega, by omega⟩, by omega, by rw [hB2, hst2]⟩
      · rw [hs] at c1
        rw [hs, if_pos rfl] at hst2
        repeat' (first | with_reducible refine inw ?_ | simp (maxSteps := 900000) (disch := omega) only [go_sem, Nat.reduceEqDiff, ↓reduceIte, reduceCtorEq, Nat.reduceAdd, Nat.reduceMul, Int.reduceToNat, List.reduceReplicate, Nat.reduceLeDiff, Nat.reduceLT, Int.reduceLT, Int.reduceLE, Int.reduceEq, eD, eE] | (with_reducible apply call (c1)); (focus simp (maxSteps := 900000) (disch := omega) only [go_sem, Nat.reduceEqDiff, ↓reduceIte, reduceCtorEq, Nat.reduceAdd, Nat.reduceMul, Int.reduceToNat, List.reduceReplicate, Nat.reduceLeDiff, Nat.reduceLT, Int.reduceLT, Int.reduceLE, Int.reduceEq, eD, eE] <;> rfl) | with_reducible refine pickB_f ?_ | with_reducible refine giv_intro fun _h => ?_ | with_reducible refine alt_intro ?_ fun _h => ?_ | with_reducible refine pickD_nil ?_ | (with_reducible refine brc (fun _h => ?_) fun _h => ?_) <;> first | (exfalso; omega) | simp only [decide_eq_false _h] | simp only [(_h : (_ : Bool) = _)] | simp only [decide_eq_true _h] | skip)
        (refine loopC hS [0, 1, 5, 6, 7] (by simp only [go_sem, Nat.reduceEqDiff, ↓reduceIte, reduceCtorEq, Nat.reduceAdd, Nat.reduceMul, Int.reduceToNat, List.reduceReplicate, Nat.reduceLeDiff, Nat.reduceLT, Int.reduceLT, Int.reduceLE, Int.reduceEq]; try rfl) (fun (k : Nat) => [(8, intA k)]) (fun (k : Nat) => [rowO 3 (updR w.length B (nth ps i).2 p k)]) (fun (k : Nat) => k ≤ (nth ps i).2.length) (fun (k : Nat) => (nth ps i).2.length - k) (0) ?_ (by intro s; first | (simp only [List.length_cons, List.length_nil]; done) | rfl | (rcases s with ⟨_, _⟩; rfl) | (rcases s with ⟨_, _, _⟩; rfl) | (rcases s with ⟨_, _, _, _⟩; rfl) | (rcases s with ⟨_, _, _, _, _⟩; rfl)) ?_)
        · simp (maxSteps := 900000) (disch := omega) only [go_sem, Nat.reduceEqDiff, ↓reduceIte, reduceCtorEq, Nat.reduceAdd, Nat.reduceMul, Int.reduceToNat, List.reduceReplicate, Nat.reduceLeDiff, Nat.reduceLT, Int.reduceLT, Int.reduceLE, Int.reduceEq]
          exact ⟨Nat.zero_le _, rfl⟩
        rintro k hk
        replace hk : k ≤ (nth ps i).2.length := hk
        have hul := updR_len w.length B (nth ps i).2 p k
        by_cases hkl : k < (nth ps i).2.length
        · have hst3 : updR w.length B (nth ps i).2 p (k + 1) = if 1 ≤ p + k ∧ p + k ≤ w.length + 1 then (updR w.length B (nth ps i).2 p k).set (p + k - 1) (max (nth (updR w.length B (nth ps i).2 p k) (p + k - 1)) (nth (nth ps i).2 k)) else updR w.length B (nth ps i).2 p k := rfl
          generalize hU2 : updR w.length B (nth ps i).2 p (k + 1) = U2 at *
          generalize updR w.length B (nth ps i).2 p k = U at *
          have e1 : ((p : Int) - 1 + k).toNat = p + k - 1 := by omega
          repeat' (first | with_reducible refine inw ?_ | simp (maxSteps := 900000) (disch := omega) only [go_sem, Nat.reduceEqDiff, ↓reduceIte, reduceCtorEq, Nat.reduceAdd, Nat.reduceMul, Int.reduceToNat, List.reduceReplicate, Nat.reduceLeDiff, Nat.reduceLT, Int.reduceLT, Int.reduceLE, Int.reduceEq, eD, eE, e1] | with_reducible refine pickB_f ?_ | with_reducible refine giv_intro fun _h => ?_ | with_reducible refine alt_intro ?_ fun _h => ?_ | with_reducible refine pickD_nil ?_ | (with_reducible refine brc (fun _h => ?_) fun _h => ?_) <;> first | (exfalso; omega) | simp only [decide_eq_false _h] | simp only [(_h : (_ : Bool) = _)] | simp only [decide_eq_true _h] | skip)
          · refine ⟨k + 1, ⟨by omega, by omega⟩, by omega, ?_⟩
            rw [hU2, hst3, if_pos (by omega), tsetI (by omega)]
          · refine ⟨k + 1, ⟨by omega, by omega⟩, by omega, ?_⟩
            rw [hU2, hst3, if_neg (by omega)]
          · refine ⟨k + 1, ⟨by omega, by omega⟩, by omega, ?_⟩
            rw [hU2, hst3, if_neg (by omega)]
        · obtain rfl : k = (nth ps i).2.length := by omega
          repeat' (first | with_reducible refine inw ?_ | simp (maxSteps := 900000) (disch := omega) only [go_sem, Nat.reduceEqDiff, ↓reduceIte, reduceCtorEq, Nat.reduceAdd, Nat.reduceMul, Int.reduceToNat, List.reduceReplicate, Nat.reduceLeDiff, Nat.reduceLT, Int.reduceLT, Int.reduceLE, Int.reduceEq, eD, eE] | with_reducible refine pickB_f ?_ | with_reducible refine giv_intro fun _h => ?_ | with_reducible refine alt_intro ?_ fun _h => ?_ | with_reducible refine pickD_nil ?_ | (with_reducible refine brc (fun _h => ?_) fun _h => ?_) <;> first | (exfalso; omega) | simp only [decide_eq_false _h] | simp only [(_h : (_ : Bool) = _)] | simp only [decide_eq_true _h] | skip)
          exact ⟨p + 1, ⟨by omega, by omega⟩, by omega, by rw [hB2, hst2]⟩
    · obtain rfl : p = w.length + 2 := by omega
      repeat' (first | with_reducible refine inw ?_ | simp (maxSteps := 900000) (disch := omega) only [go_sem, Nat.reduceEqDiff, ↓reduceIte, reduceCtorEq, Nat.reduceAdd, Nat.reduceMul, Int.reduceToNat, List.reduceReplicate, Nat.reduceLeDiff, Nat.reduceLT, Int.reduceLT, Int.reduceLE, Int.reduceEq] | with_reducible refine pickB_f ?_ | with_reducible refine giv_intro fun _h => ?_ | with_reducible refine alt_intro ?_ fun _h => ?_ | with_reducible refine pickD_nil ?_ | (with_reducible refine brc (fun _h => ?_) fun _h => ?_) <;> first | (exfalso; omega) | simp only [decide_eq_false _h] | simp only [(_h : (_ : Bool) = _)] | simp only [decide_eq_true _h] | skip)
      exact ⟨i + 1, ⟨by omega, by omega⟩, by omega, by rw [hA2, hst]⟩
  · obtain rfl : i = ps.length := by omega
    repeat' (first | with_reducible refine inw ?_ | simp (maxSteps := 900000) (disch := omega) only [go_sem, Nat.reduceEqDiff, ↓reduceIte, reduceCtorEq, Nat.reduceAdd, Nat.reduceMul, Int.reduceToNat, List.reduceReplicate, Nat.reduceLeDiff, Nat.reduceLT, Int.reduceLT, Int.reduceLE, Int.reduceEq] | with_reducible refine pickB_f ?_ | with_reducible refine giv_intro fun _h => ?_ | with_reducible refine alt_intro ?_ fun _h => ?_ | with_reducible refine pickD_nil ?_ | (with_reducible refine brc (fun _h => ?_) fun _h => ?_) <;> first | (exfalso; omega) | simp only [decide_eq_false _h] | simp only [(_h : (_ : Bool) = _)] | simp only [decide_eq_true _h] | skip)
    all_goals skip
end Go.Proofs.Ytfihpbeihlpfcaa.Ev

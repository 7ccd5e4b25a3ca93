/- The reference puts a gram into a list by halves. -/
import Derived.Test.YtedbjmonfbpefaaZFnGb
import Derived.Test.YtedbjmonfbpefaaZFnQ
import Derived.Test.YtedbjmonfbpefaaZEvZ
set_option linter.unusedVariables false
set_option linter.unusedSimpArgs false
namespace Go.Proofs.Ytedbjmonfbpefaa.Ev
open Go Go.Proofs

theorem cells2 {l : List Gram} {i : Nat} (h : i < l.length) : ∃ A B, cellsL l = A ++ (sl (nth l i).1 :: intA (nth l i).2 :: B) ∧ A.length = i * 2 ∧ A = cellsL (l.take i) ∧ B = cellsL (l.drop (i + 1)) := by
  refine ⟨cellsL (l.take i), cellsL (l.drop (i + 1)), ?_, by rw [cellsL_len, List.length_take]; omega, rfl, rfl⟩
  conv => lhs; rw [← List.take_append_drop i l, nth_drop h, ← cellsL_app, cellsL_cons]
  rfl
theorem cells2_0 {l : List Gram} {i : Nat} (h : i < l.length) : (cellsL l)[i * 2]? = some (sl (nth l i).1) := by
  obtain ⟨A, B, e, hA, _, _⟩ := cells2 h
  rw [e, List.getElem?_append_right (by omega), hA, Nat.sub_self]; rfl
theorem cells2_1 {l : List Gram} {i : Nat} (h : i < l.length) : (cellsL l)[i * 2 + 1]? = some (intA (nth l i).2) := by
  obtain ⟨A, B, e, hA, _, _⟩ := cells2 h
  rw [e, List.getElem?_append_right (by omega), hA, Nat.add_sub_cancel_left]; rfl
theorem put2_1 {l : List Gram} {i : Nat} (h : i < l.length) (v : Int) : (cellsL l).take (i * 2 + 1) ++ [intA v] ++ (cellsL l).drop (i * 2 + 1 + 1) = cellsL (putAt l i ((nth l i).1, v)) := by
  obtain ⟨A, B, e, hA, eA, eB⟩ := cells2 h
  have e1 : (A ++ (sl (nth l i).1 :: intA (nth l i).2 :: B)).take (i * 2 + 1) = A ++ [sl (nth l i).1] := by
    rw [List.take_append, List.take_of_length_le (by omega), show i * 2 + 1 - A.length = 1 by omega]; rfl
  have e2 : (A ++ (sl (nth l i).1 :: intA (nth l i).2 :: B)).drop (i * 2 + 1 + 1) = B := by
    rw [List.drop_append, List.drop_of_length_le (by omega), show i * 2 + 1 + 1 - A.length = 2 by omega]; rfl
  rw [e, e1, e2, putAt, ← cellsL_app, cellsL_cons, eA, eB, List.append_assoc, List.append_assoc]; rfl
/-- ablaut/ablautref27.into: 3 parameters, 0 captured -/
def s91 : SC := .seq (.reg [o1 6 (.mv (.c (.slice none 0 0)))])
  (.seq (.reg [o1 12 (.mv (.t 0)),
    o1 13 (.lenL (.t 12)),
    o1 7 (.mv (cI 0)),
    o1 8 (.mv (.t 13))])
   (.seq (.block 0 (.loop (.seq (.seq (.reg [o1 14 (.mv (.t 7)),
         o1 15 (.mv (.t 8)),
         o1 16 (.bin .lss (.t 14) (.t 15))])
        (.cond (.t 16) (.skip) (.exit 0)))
       (.block 1 (.seq (.reg [o1 17 (.mv (.t 7)),
          o1 18 (.mv (.t 8)),
          o1 19 (.bin .add (.t 17) (.t 18)),
          o1 20 (.bin .quo (.t 19) (cI 2)),
          o1 9 (.mv (.t 20))])
         (.seq (.reg [o1 21 (.mv (.t 0)),
           o1 22 (.mv (.t 9)),
           o1 23 (.iaddr 2 (.t 21) (.t 22)),
           o1 24 (.faddr 0 (.t 23)),
           o1 25 (.load none (.t 24)),
           o1 26 (.mv (.t 1)),
           o1 27 (.call (.f 110) [(.t 25), (.t 26)]),
           o1 10 (.mv (.t 27))])
          (.seq (.seq (.reg [o1 28 (.mv (.t 10)),
             o1 29 (.bin .eql (.t 28) (cI 0))])
            (.cond (.t 29) (.seq (.reg [o1 30 (.mv (.t 0)),
               o1 31 (.mv (.t 9)),
               o1 32 (.iaddr 2 (.t 30) (.t 31)),
               o1 33 (.faddr 1 (.t 32)),
               o1 34 (.load none (.t 33)),
               o1 35 (.mv (.t 2)),
               o1 36 (.bin .add (.t 34) (.t 35)),
               o1 37 (.iaddr 2 (.t 30) (.t 31)),
               o1 38 (.faddr 1 (.t 37)),
               o0 (.store 1 (.t 38) (.t 36))])
              (.seq (.reg [o1 39 (.mv (.t 0)),
                o1 6 (.mv (.t 39))])
               (.ret))) (.skip)))
           (.seq (.reg [o1 40 (.mv (.t 10)),
             o1 41 (.bin .lss (.t 40) (cI 0))])
            (.cond (.t 41) (.reg [o1 42 (.mv (.t 9)),
              o1 43 (.bin .add (.t 42) (cI 1)),
              o1 7 (.mv (.t 43))]) (.reg [o1 44 (.mv (.t 9)),
              o1 8 (.mv (.t 44))]))))))))))
    (.seq (.reg [o1 45 (.buildSl 89 2 0 [(.slice none 0 0), (.int .i64 0)] []),
      o1 46 (.mv (.t 0)),
      o1 47 (.mv (.t 7)),
      o1 48 (.sl 2 (.t 46) none (some (.t 47))),
      o1 49 (.app 89 2 32 (.t 45) (.t 48)),
      o1 11 (.mv (.t 49))])
     (.seq (.reg [o1 50 (.mv (.t 11)),
       o1 51 (.buildSl 9 1 0 [(.string ⟨#[]⟩)] []),
       o1 52 (.mv (.t 1)),
       o1 53 (.app 9 1 16 (.t 51) (.t 52)),
       o1 54 (.mv (.t 2)),
       o1 55 (.build [(.slice none 0 0), (.int .i64 0)] [(0, 1, (.t 53)), (1, 1, (.t 54))]),
       o1 56 (.buildSl 89 2 1 [(.slice none 0 0), (.int .i64 0)] [(0, 2, (.t 55))]),
       o1 57 (.app 89 2 32 (.t 50) (.t 56)),
       o1 11 (.mv (.t 57))])
      (.seq (.reg [o1 58 (.mv (.t 11)),
        o1 59 (.mv (.t 0)),
        o1 60 (.mv (.t 7)),
        o1 61 (.sl 2 (.t 59) (some (.t 60)) none),
        o1 62 (.app 89 2 32 (.t 58) (.t 61)),
        o1 6 (.mv (.t 62))])
       (.ret))))))
theorem s91_ok : lookF Try.prog 91 = some (s91, 63, [.tmp 6]) := by kernel_rfl
set_option maxHeartbeats 1000000 in
theorem into_call {S : St} (hS : Clean S) {K : AV → St → Prop} (out : List Gram) (w : List Str) (m : Int) (ha : AscG out) (hl : out.length ≤ 1000) (hw : w.length ≤ 8796093022208) (hg : ∀ g ∈ out, g.1.length ≤ 8796093022208 ∧ 0 ≤ g.2 ∧ g.2 ≤ 1000000) (hm : 0 ≤ m ∧ m ≤ 1000000)
    (hK : ∀ X, K (own S 0 (insG w m out)) (S.stk (rowO 89 (insG w m out) :: X))) : callS P 91 [own S 0 out, sl w, intA m] (S.stk [rowO 89 out]) K () := by
  refine callI s91_ok (by simp) hS (cwp_sound _ _ _ _ ?_)
  simp (maxSteps := 900000) (disch := omega) only [s91, go_sem, Nat.reduceEqDiff, ↓reduceIte, reduceCtorEq, Nat.reduceAdd, Nat.reduceMul, Int.reduceToNat, List.reduceReplicate, Nat.reduceLeDiff, Nat.reduceLT, Int.reduceLT, Int.reduceLE, Int.reduceEq]
  skip
  repeat' (first | with_reducible refine inw ?_ | simp (maxSteps := 900000) (disch := omega) only [go_sem, Nat.reduceEqDiff, ↓reduceIte, reduceCtorEq, Nat.reduceAdd, Nat.reduceMul, Int.reduceToNat, List.reduceReplicate, Nat.reduceLeDiff, Nat.reduceLT, Int.reduceLT, Int.reduceLE, Int.reduceEq] | with_reducible refine pickB_f ?_ | with_reducible refine giv_intro fun _h => ?_ | with_reducible refine alt_intro ?_ fun _h => ?_ | with_reducible refine pickD_nil ?_ | (with_reducible refine brc (fun _h => ?_) fun _h => ?_) <;> first | (exfalso; omega) | simp only [decide_eq_false _h] | simp only [(_h : (_ : Bool) = _)] | simp only [decide_eq_true _h] | skip)
  (refine loopC hS [0, 1, 2] (by simp only [go_sem, Nat.reduceEqDiff, ↓reduceIte, reduceCtorEq, Nat.reduceAdd, Nat.reduceMul, Int.reduceToNat, List.reduceReplicate, Nat.reduceLeDiff, Nat.reduceLT, Int.reduceLT, Int.reduceLE, Int.reduceEq]; try rfl) (fun (⟨low, high⟩ : Nat × Nat) => [(7, intA low), (8, intA high)]) (fun (⟨low, high⟩ : Nat × Nat) => [rowO 89 out]) (fun (⟨low, high⟩ : Nat × Nat) => low ≤ high ∧ high ≤ out.length ∧ (∀ j, j < low → cmpL (nth out j).1 w < 0) ∧ (∀ j, high ≤ j → j < out.length → cmpL w (nth out j).1 < 0)) (fun (⟨low, high⟩ : Nat × Nat) => high - low) ((0, out.length)) ?_ (by intro s; first | rfl | (rcases s with ⟨_, _⟩; rfl) | (rcases s with ⟨_, _, _⟩; rfl) | (rcases s with ⟨_, _, _, _⟩; rfl) | (rcases s with ⟨_, _, _, _, _⟩; rfl)) ?_)
  · simp (maxSteps := 900000) (disch := omega) only [go_sem, Nat.reduceEqDiff, ↓reduceIte, reduceCtorEq, Nat.reduceAdd, Nat.reduceMul, Int.reduceToNat, List.reduceReplicate, Nat.reduceLeDiff, Nat.reduceLT, Int.reduceLT, Int.reduceLE, Int.reduceEq]
    exact ⟨by omega, fun j hj => absurd hj (Nat.not_lt_zero _), fun j h1 h2 => absurd h1 (by omega)⟩
  rintro ⟨low, high⟩ ⟨h1, h2, h3, h4⟩
  replace h1 : low ≤ high := h1
  replace h2 : high ≤ out.length := h2
  replace h3 : ∀ j, j < low → cmpL (nth out j).1 w < 0 := h3
  replace h4 : ∀ j, high ≤ j → j < out.length → cmpL w (nth out j).1 < 0 := h4
  by_cases hlt : low < high
  · have hmid : ((low : Int) + high) / 2 = (((low + high) / 2 : Nat) : Int) := by omega
    have hmid2 : ((low : Int) + high).tdiv 2 = (((low + high) / 2 : Nat) : Int) := by rw [Int.tdiv_eq_ediv_of_nonneg (by omega)]; omega
    obtain ⟨mid, hmd⟩ : ∃ mid, (low + high) / 2 = mid := ⟨_, rfl⟩
    rw [hmd] at hmid hmid2
    have hm1 : low ≤ mid ∧ mid < high := by omega
    have hgm := hg _ (nth_mem (show mid < out.length by omega))
    have c1 := rOrder_ok (nth out mid).1 w hgm.1 hw
    have hlo : cmpL (nth out mid).1 w < 0 → ∀ j, j < mid + 1 → cmpL (nth out j).1 w < 0 := fun hc j hj => by
      rcases Nat.lt_or_ge j mid with h | h
      · exact cmpL_trans (asc_nth ha h (by omega)) hc
      · obtain rfl : j = mid := by omega
        exact hc
    have hhi : cmpL (nth out mid).1 w ≠ 0 → ¬cmpL (nth out mid).1 w < 0 → ∀ j, mid ≤ j → j < out.length → cmpL w (nth out j).1 < 0 := fun h0 hc j hj hjl => by
      have hc2 : cmpL w (nth out mid).1 < 0 := by have := cmpL_anti (nth out mid).1 w; omega
      rcases Nat.lt_or_ge mid j with h | h
      · exact cmpL_trans hc2 (asc_nth ha h hjl)
      · obtain rfl : j = mid := by omega
        exact hc2
    have e0 := cells2_0 (show mid < out.length by omega)
    have e1 := cells2_1 (show mid < out.length by omega)
    have e2 := put2_1 (show mid < out.length by omega)
    repeat' (first | with_reducible refine inw ?_ | simp (maxSteps := 900000) (disch := omega) only [go_sem, Nat.reduceEqDiff, ↓reduceIte, reduceCtorEq, Nat.reduceAdd, Nat.reduceMul, Int.reduceToNat, List.reduceReplicate, Nat.reduceLeDiff, Nat.reduceLT, Int.reduceLT, Int.reduceLE, Int.reduceEq, hmid, hmid2, e0, e1, e2] | (with_reducible apply call (c1)); (focus simp (maxSteps := 900000) (disch := omega) only [go_sem, Nat.reduceEqDiff, ↓reduceIte, reduceCtorEq, Nat.reduceAdd, Nat.reduceMul, Int.reduceToNat, List.reduceReplicate, Nat.reduceLeDiff, Nat.reduceLT, Int.reduceLT, Int.reduceLE, Int.reduceEq, hmid, hmid2, e0, e1, e2] <;> rfl) | with_reducible refine pickB_f ?_ | with_reducible refine giv_intro fun _h => ?_ | with_reducible refine alt_intro ?_ fun _h => ?_ | with_reducible refine pickD_nil ?_ | (with_reducible refine brc (fun _h => ?_) fun _h => ?_) <;> first | (exfalso; omega) | simp only [decide_eq_false _h] | simp only [(_h : (_ : Bool) = _)] | simp only [decide_eq_true _h] | skip)
    · have e3 : insG w m out = putAt out mid ((nth out mid).1, (nth out mid).2 + m) := insG_hit ha (by omega) ((cmpL_zero _ _).1 _h)
      have hk := hK []
      have e4 : (putAt out mid ((nth out mid).1, (nth out mid).2 + m)).length = out.length := putAt_len (by omega) _
      rw [e3] at hk
      simp only [own, e4] at hk
      exact hk
    · exact ⟨(mid + 1, high), ⟨by show high - (mid + 1) < _; omega, by show mid + 1 ≤ high; omega, h2, hlo _h, h4⟩, by show (mid : Int) + 1 = ((mid + 1 : Nat) : Int); omega, rfl⟩
    · exact ⟨(low, mid), ⟨by show mid - low < _; omega, by show low ≤ mid; omega, by show mid ≤ _; omega, h3, hhi (by assumption) _h⟩, rfl, rfl⟩
  · obtain rfl : low = high := by omega
    have hmiss := insG_miss (m := m) ha h2 h3 h4
    have hif : (low * 2 ≤ out.length * 2) = True := eq_true (by omega)
    have z0 : zcells [Value.slice none 0 0, Value.int IntKind.i64 0] 0 = [] := rfl
    have z1 : zcells [Value.string ⟨#[]⟩] 0 = [] := rfl
    have z2 : zcells [Value.slice none 0 0, Value.int IntKind.i64 0] 2 = [.sc (.slice none 0 0), intA 0] := rfl
    have eT : (cellsL out).take (low * 2) = cellsL (out.take low) := cellsL_take _ _
    have eTl : (out.take low).length = low := by rw [List.length_take]; omega
    have eDl : (out.drop low).length = out.length - low := List.length_drop
    have hif2 : (low * 2 + (out.length - low) * 2 ≤ out.length * 2) = True := eq_true (by omega)
    have eS : ((cellsL out).drop (low * 2)).take ((out.length - low) * 2) = cellsL (out.drop low) := by
      rw [cellsL_drop, List.take_of_length_le (by rw [cellsL_len, eDl]; exact Nat.le_refl _)]
    have eW : low + 1 + (out.length - low) = out.length + 1 := by omega
    refine swp_seq (in_seq ?_)
    repeat' (first | simp (maxSteps := 900000) (disch := omega) only [go_sem, Nat.reduceEqDiff, ↓reduceIte, reduceCtorEq, Nat.reduceAdd, Nat.reduceMul, Int.reduceToNat, List.reduceReplicate, Nat.reduceLeDiff, Nat.reduceLT, Int.reduceLT, Int.reduceLE, Int.reduceEq] | with_reducible refine pickB_f ?_ | with_reducible refine giv_intro fun _h => ?_ | with_reducible refine alt_intro ?_ fun _h => ?_ | with_reducible refine pickD_nil ?_ | (with_reducible refine brc (fun _h => ?_) fun _h => ?_) <;> first | (exfalso; omega) | simp only [decide_eq_false _h] | simp only [(_h : (_ : Bool) = _)] | simp only [decide_eq_true _h] | skip)
    refine swp_seq (in_reg ?_)
    repeat' (first | simp (maxSteps := 900000) (disch := omega) only [go_sem, Nat.reduceEqDiff, ↓reduceIte, reduceCtorEq, Nat.reduceAdd, Nat.reduceMul, Int.reduceToNat, List.reduceReplicate, Nat.reduceLeDiff, Nat.reduceLT, Int.reduceLT, Int.reduceLE, Int.reduceEq, Nat.sub_zero, hif, hif2, if_true, true_or, or_true, and_true, z0, z1, z2, List.nil_append, eT, eTl, eS, eDl, eW, Nat.zero_add] | with_reducible refine pickB_f ?_ | with_reducible refine giv_intro fun _h => ?_ | with_reducible refine alt_intro ?_ fun _h => ?_ | with_reducible refine pickD_nil ?_ | (with_reducible refine brc (fun _h => ?_) fun _h => ?_) <;> first | (exfalso; omega) | simp only [decide_eq_false _h] | simp only [(_h : (_ : Bool) = _)] | simp only [decide_eq_true _h] | skip)
    refine swp_seq (in_reg ?_)
    repeat' (first | simp (maxSteps := 900000) (disch := omega) only [go_sem, Nat.reduceEqDiff, ↓reduceIte, reduceCtorEq, Nat.reduceAdd, Nat.reduceMul, Int.reduceToNat, List.reduceReplicate, Nat.reduceLeDiff, Nat.reduceLT, Int.reduceLT, Int.reduceLE, Int.reduceEq, Nat.sub_zero, hif, hif2, if_true, true_or, or_true, and_true, z0, z1, z2, List.nil_append, eT, eTl, eS, eDl, eW, Nat.zero_add] | with_reducible refine pickB_f ?_ | with_reducible refine giv_intro fun _h => ?_ | with_reducible refine alt_intro ?_ fun _h => ?_ | with_reducible refine pickD_nil ?_ | (with_reducible refine brc (fun _h => ?_) fun _h => ?_) <;> first | (exfalso; omega) | simp only [decide_eq_false _h] | simp only [(_h : (_ : Bool) = _)] | simp only [decide_eq_true _h] | skip)
    have hcl : (cellsL (out.take low)).length = low * 2 := by rw [cellsL_len, eTl]
    have hcs : (cellsL (out.take low) ++ [AV.ref (S.nm 2) w.length 0 w.length, AV.sc (Value.int .i64 m)]).set (low * 2) (.ro w.length ((cellsL w).take (w.length * 1))) = cellsL (out.take low ++ [(w, m)]) := by
      rw [List.set_append_right _ _ (by omega), hcl, Nat.sub_self, List.set_cons_zero, ← cellsL_app, List.take_of_length_le (l := cellsL w) (by rw [cellsL_len]; exact Nat.le_refl _)]; rfl
    have hln : (out.take low ++ [(w, m)]).length = low + 1 := by rw [List.length_append, eTl]; rfl
    refine freezeCell 1 2 (low * 2) 89 2 9 1 (by rfl) (by rw [List.getElem?_append_right (by omega), hcl, Nat.sub_self]; rfl) (by rfl) (by rw [cellsL_len, Nat.mul_one]) (by omega) (by omega) ?_
    simp only [List.set_cons_zero, List.set_cons_succ, hcs]
    have hr : ∀ (x y : Option Ob) (L : List (Option Ob)), rowAt (x :: some (.row 89 2 (cellsL (out.take low ++ [(w, m)]))) :: L) 1 ((low + 1) * 2) = some (89, 2, cellsL (out.take low ++ [(w, m)])) := fun x y L => by
      rw [rowAt_succ, rowAt_zero, if_pos (by rw [cellsL_len, hln])]
    have hml : (insG w m out).length = out.length + 1 := by rw [hmiss, List.length_append, List.length_cons, eTl, eDl]; omega
    have hmi : out.take low ++ [(w, m)] ++ out.drop low = insG w m out := by rw [hmiss, List.append_assoc]; rfl
    refine swp_seq (in_reg ?_)
    repeat' (first | simp (maxSteps := 900000) (disch := omega) only [go_sem, Nat.reduceEqDiff, ↓reduceIte, reduceCtorEq, Nat.reduceAdd, Nat.reduceMul, Int.reduceToNat, List.reduceReplicate, Nat.reduceLeDiff, Nat.reduceLT, Int.reduceLT, Int.reduceLE, Int.reduceEq, Nat.sub_zero, hif, hif2, if_true, true_or, or_true, and_true, z0, z1, z2, List.nil_append, eT, eTl, eS, eDl, eW, Nat.zero_add, hln, hmi] | with_reducible refine pickB_f ?_ | with_reducible refine giv_intro fun _h => ?_ | with_reducible refine alt_intro ?_ fun _h => ?_ | with_reducible refine pickD_nil ?_ | (with_reducible refine brc (fun _h => ?_) fun _h => ?_) <;> first | (exfalso; omega) | simp only [decide_eq_false _h] | simp only [(_h : (_ : Bool) = _)] | simp only [decide_eq_true _h] | skip)
    refine moveRow (tot := (out.length + 1) * 2) (m := out.length + 1) 6 0 1 89 2 (by simp (maxSteps := 900000) (disch := omega) only [go_sem, Nat.reduceEqDiff, ↓reduceIte, reduceCtorEq, Nat.reduceAdd, Nat.reduceMul, Int.reduceToNat, List.reduceReplicate, Nat.reduceLeDiff, Nat.reduceLT, Int.reduceLT, Int.reduceLE, Int.reduceEq]) (by rfl) (by rfl) (by rw [cellsL_len, cellsL_len, hml]; omega) (by omega) ?_
    simp only [List.set_cons_zero, List.set_cons_succ]
    repeat' (first | with_reducible refine inw ?_ | simp (maxSteps := 900000) (disch := omega) only [go_sem, Nat.reduceEqDiff, ↓reduceIte, reduceCtorEq, Nat.reduceAdd, Nat.reduceMul, Int.reduceToNat, List.reduceReplicate, Nat.reduceLeDiff, Nat.reduceLT, Int.reduceLT, Int.reduceLE, Int.reduceEq] | with_reducible refine pickB_f ?_ | with_reducible refine giv_intro fun _h => ?_ | with_reducible refine alt_intro ?_ fun _h => ?_ | with_reducible refine pickD_nil ?_ | (with_reducible refine brc (fun _h => ?_) fun _h => ?_) <;> first | (exfalso; omega) | simp only [decide_eq_false _h] | simp only [(_h : (_ : Bool) = _)] | simp only [decide_eq_true _h] | skip)
    have hk := hK [none, none, some (.row 89 2 [AV.ref (S.nm 2) w.length 0 w.length, AV.sc (Value.int IntKind.i64 m)])]
    simp only [own, hml] at hk
    exact hk
end Go.Proofs.Ytedbjmonfbpefaa.Ev

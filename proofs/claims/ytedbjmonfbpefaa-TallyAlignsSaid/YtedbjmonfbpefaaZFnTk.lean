/- The reference's beads and their cost. -/
import Derived.Test.YtedbjmonfbpefaaZFnTi
set_option linter.unusedVariables false
set_option linter.unusedSimpArgs false
namespace Go.Proofs.Ytedbjmonfbpefaa.Ev
open Go Go.Proofs Go.RowKit

/-- The cells of all beads, by name. -/
def bdC : List AV := cellsL beads
theorem bdC_len : bdC.length = 12 := rfl
theorem bels_bdC (k : Nat) : bels k bdC = True := bels_cellsL k beads
theorem bdC_at {m u v : Nat} (hm : m < 6) (h : nth beads m = ((u : Int), (v : Int))) : (bdC.drop (m * 2)).take 2 = [intA u, intA v] := by
  rcases (show m = 0 ∨ m = 1 ∨ m = 2 ∨ m = 3 ∨ m = 4 ∨ m = 5 by omega) with rfl | rfl | rfl | rfl | rfl | rfl
  all_goals
    have h1 := congrArg Prod.fst h
    have h2 := congrArg Prod.snd h
    dsimp only at h1 h2
    rw [← h1, ← h2]; rfl
/-- ablaut/ablautref27.beads: 0 parameters, 0 captured -/
def s66 : SC := .seq (.reg [o1 0 (.alloc 85 12 [(.int .i64 0), (.int .i64 0), (.int .i64 0), (.int .i64 0), (.int .i64 0), (.int .i64 0), (.int .i64 0), (.int .i64 0), (.int .i64 0), (.int .i64 0), (.int .i64 0), (.int .i64 0)])])
  (.seq (.reg [o1 1 (.build [(.int .i64 0), (.int .i64 0)] [(0, 1, (cI 0)), (1, 1, (cI 1))]),
    o1 2 (.build [(.int .i64 0), (.int .i64 0)] [(0, 1, (cI 1)), (1, 1, (cI 0))]),
    o1 3 (.build [(.int .i64 0), (.int .i64 0)] [(0, 1, (cI 1)), (1, 1, (cI 1))]),
    o1 4 (.build [(.int .i64 0), (.int .i64 0)] [(0, 1, (cI 1)), (1, 1, (cI 2))]),
    o1 5 (.build [(.int .i64 0), (.int .i64 0)] [(0, 1, (cI 2)), (1, 1, (cI 1))]),
    o1 6 (.build [(.int .i64 0), (.int .i64 0)] [(0, 1, (cI 2)), (1, 1, (cI 2))]),
    o1 7 (.build [(.int .i64 0), (.int .i64 0), (.int .i64 0), (.int .i64 0), (.int .i64 0), (.int .i64 0), (.int .i64 0), (.int .i64 0), (.int .i64 0), (.int .i64 0), (.int .i64 0), (.int .i64 0)] [(0, 2, (.t 1)), (2, 2, (.t 2)), (4, 2, (.t 3)), (6, 2, (.t 4)), (8, 2, (.t 5)), (10, 2, (.t 6))]),
    o0 (.store 12 (.t 0) (.t 7))])
   (.ret))
theorem s66_ok : lookF Try.prog 66 = some (s66, 8, [.cell 0 (some 12)]) := by kernel_rfl
theorem z12_12 : zcells [Value.int .i64 0, Value.int .i64 0, Value.int .i64 0, Value.int .i64 0, Value.int .i64 0, Value.int .i64 0, Value.int .i64 0, Value.int .i64 0, Value.int .i64 0, Value.int .i64 0, Value.int .i64 0, Value.int .i64 0] 12 = List.replicate 12 (intA 0) := rfl
theorem rBeads_ok : Fn P 66 [] (.agg bdC) := by
  refine fn_look s66_ok (by simp) (by intro k; simp only [AV.bel, bels_bdC]) fun S hS => cwp_sound _ _ _ _ ?_
  simp (maxSteps := 900000) (disch := omega) only [s66, go_sem, Nat.reduceEqDiff, ↓reduceIte, reduceCtorEq, Nat.reduceAdd, Nat.reduceMul, Int.reduceToNat, List.reduceReplicate, Nat.reduceLeDiff, Nat.reduceLT, Int.reduceLT, Int.reduceLE, Int.reduceEq]
  repeat' (first | with_reducible refine inw ?_ | simp (maxSteps := 900000) (disch := omega) only [go_sem, Nat.reduceEqDiff, ↓reduceIte, reduceCtorEq, Nat.reduceAdd, Nat.reduceMul, Int.reduceToNat, List.reduceReplicate, Nat.reduceLeDiff, Nat.reduceLT, Int.reduceLT, Int.reduceLE, Int.reduceEq, z2_2, z12_12] | with_reducible refine giv_intro fun _h => ?_ | with_reducible refine alt_intro ?_ fun _h => ?_ | with_reducible refine pickD_nil ?_ | (with_reducible refine brc (fun _h => ?_) fun _h => ?_) <;> first | (exfalso; omega) | simp only [decide_eq_false _h] | simp only [(_h : (_ : Bool) = _)] | simp only [decide_eq_true _h] | skip)
  all_goals rfl
/-- ablaut/ablautref27.cost: 6 parameters, 0 captured -/
def s67 : SC := .seq (.reg [o1 11 (.box 41 2 (.t 5)),
   o1 12 (.mv (cI 0))])
  (.seq (.reg [o1 13 (.mv (cI 0))])
   (.seq (.seq (.reg [o1 14 (.mv (cI 0))])
     (.block 0 (.loop (.seq (.seq (.reg [o1 16 (.mv (.t 14)),
          o1 17 (.faddr 0 (.t 11)),
          o1 18 (.load none (.t 17)),
          o1 19 (.bin .lss (.t 16) (.t 18))])
         (.cond (.t 19) (.skip) (.exit 0)))
        (.seq (.block 1 (.reg [o1 22 (.mv (.t 13)),
           o1 23 (.mv (.t 0)),
           o1 24 (.mv (.t 2)),
           o1 25 (.mv (.t 14)),
           o1 26 (.bin .add (.t 24) (.t 25)),
           o1 27 (.iaddr 1 (.t 23) (.t 26)),
           o1 28 (.load none (.t 27)),
           o1 29 (.bin .add (.t 22) (.t 28)),
           o1 13 (.mv (.t 29))]))
         (.reg [o1 20 (.mv (.t 14)),
          o1 21 (.bin .add (.t 20) (cI 1)),
          o1 14 (.mv (.t 21))]))))))
    (.seq (.seq (.reg [o1 15 (.mv (cI 0))])
      (.block 2 (.loop (.seq (.seq (.reg [o1 30 (.mv (.t 15)),
           o1 31 (.faddr 1 (.t 11)),
           o1 32 (.load none (.t 31)),
           o1 33 (.bin .lss (.t 30) (.t 32))])
          (.cond (.t 33) (.skip) (.exit 2)))
         (.seq (.block 3 (.reg [o1 36 (.mv (.t 13)),
            o1 37 (.mv (.t 1)),
            o1 38 (.mv (.t 3)),
            o1 39 (.mv (.t 15)),
            o1 40 (.bin .add (.t 38) (.t 39)),
            o1 41 (.iaddr 1 (.t 37) (.t 40)),
            o1 42 (.load none (.t 41)),
            o1 43 (.bin .sub (.t 36) (.t 42)),
            o1 13 (.mv (.t 43))]))
          (.reg [o1 34 (.mv (.t 15)),
           o1 35 (.bin .add (.t 34) (cI 1)),
           o1 15 (.mv (.t 35))]))))))
     (.seq (.reg [o1 44 (.mv (.t 13)),
       o1 45 (.mv (.t 13)),
       o1 46 (.un .neg (.t 45)),
       o1 47 (.max (.t 44) (.t 46)),
       o1 13 (.mv (.t 47))])
      (.seq (.seq (.reg [o1 48 (.faddr 0 (.t 11)),
         o1 49 (.load none (.t 48)),
         o1 50 (.bin .neq (.t 49) (cI 1)),
         o1 51 (.mv (.t 50)),
         oF 52 (.faddr 1 (.t 11)) 51,
         oF 53 (.load none (.t 52)) 51,
         oF 54 (.bin .neq (.t 53) (cI 1)) 51,
         o1 55 (.pick (.t 51) (cB true) (.t 54))])
        (.cond (.t 55) (.reg [o1 56 (.mv (.t 13)),
          o1 57 (.mv (.t 4)),
          o1 58 (.bin .add (.t 56) (.t 57)),
          o1 13 (.mv (.t 58))]) (.skip)))
       (.seq (.reg [o1 59 (.mv (.t 13)),
         o1 12 (.mv (.t 59))])
        (.ret)))))))
theorem s67_ok : lookF Try.prog 67 = some (s67, 60, [.tmp 12]) := by kernel_rfl
theorem rCost_ok {a b : List Int} {s : Int} (ha : ∀ x ∈ a, 0 ≤ x ∧ x ≤ 1000) (hb : ∀ x ∈ b, 0 ≤ x ∧ x ≤ 1000) (hs : 0 ≤ s ∧ s ≤ 1000) (hla : a.length ≤ 200) (hlb : b.length ≤ 200) {i k u v : Nat} (hu : u ≤ 2) (hv : v ≤ 2) (hf : i + u ≤ a.length ∧ k + v ≤ b.length) :
    Fn P 67 [sl a, sl b, intA i, intA k, intA s, .agg [intA u, intA v]] (intA (costB a b s i k ((u : Int), (v : Int)))) := by
  have hcl : costB a b s i k ((u : Int), (v : Int)) = if (u : Int) ≠ 1 ∨ (v : Int) ≠ 1 then max (totI ((a.drop i).take u) - totI ((b.drop k).take v)) (0 - (totI ((a.drop i).take u) - totI ((b.drop k).take v))) + s else max (totI ((a.drop i).take u) - totI ((b.drop k).take v)) (0 - (totI ((a.drop i).take u) - totI ((b.drop k).take v))) := by
    rw [costB]; simp only [absI, diffB, Int.toNat_natCast, Int.zero_sub]
  rw [hcl]
  obtain ⟨hf1, hf2⟩ := hf
  have t1 := totI_part ha i u hu
  (refine fn_look s67_ok (by simp) (by intro k; simp only [go_sem, Nat.reduceEqDiff, ↓reduceIte, reduceCtorEq, Nat.reduceAdd, Nat.reduceMul, Int.reduceToNat, List.reduceReplicate, Nat.reduceLeDiff, Nat.reduceLT, Int.reduceLT, Int.reduceLE, Int.reduceEq]) fun S hS => cwp_sound _ _ _ _ ?_; simp (maxSteps := 900000) (disch := omega) only [s67, go_sem, Nat.reduceEqDiff, ↓reduceIte, reduceCtorEq, Nat.reduceAdd, Nat.reduceMul, Int.reduceToNat, List.reduceReplicate, Nat.reduceLeDiff, Nat.reduceLT, Int.reduceLT, Int.reduceLE, Int.reduceEq])
  repeat' (first | with_reducible refine inw ?_ | simp (maxSteps := 900000) (disch := omega) only [go_sem, Nat.reduceEqDiff, ↓reduceIte, reduceCtorEq, Nat.reduceAdd, Nat.reduceMul, Int.reduceToNat, List.reduceReplicate, Nat.reduceLeDiff, Nat.reduceLT, Int.reduceLT, Int.reduceLE, Int.reduceEq] | with_reducible refine giv_intro fun _h => ?_ | with_reducible refine alt_intro ?_ fun _h => ?_ | with_reducible refine pickD_nil ?_ | (with_reducible refine brc (fun _h => ?_) fun _h => ?_) <;> first | (exfalso; omega) | simp only [decide_eq_false _h] | simp only [(_h : (_ : Bool) = _)] | simp only [decide_eq_true _h] | skip)
  (refine loopC hS [0, 1, 2, 3, 4, 11] (by simp only [go_sem, Nat.reduceEqDiff, ↓reduceIte, reduceCtorEq, Nat.reduceAdd, Nat.reduceMul, Int.reduceToNat, List.reduceReplicate, Nat.reduceLeDiff, Nat.reduceLT, Int.reduceLT, Int.reduceLE, Int.reduceEq]; try rfl) (fun (j : Nat) => [(13, intA (totI ((a.drop i).take j))), (14, intA j)]) (fun (j : Nat) => [some (.row 41 2 [intA u, intA v])]) (fun (j : Nat) => j ≤ u) (fun (j : Nat) => u - j) (0) ?h01 ?hn1 ?rd1; case hn1 => (intro s; first | rfl | (rcases s with ⟨_, _⟩; rfl) | (rcases s with ⟨_, _, _⟩; rfl) | (rcases s with ⟨_, _, _, _⟩; rfl) | (rcases s with ⟨_, _, _, _, _⟩; rfl)))
  · simp (maxSteps := 900000) (disch := omega) only [go_sem, Nat.reduceEqDiff, ↓reduceIte, reduceCtorEq, Nat.reduceAdd, Nat.reduceMul, Int.reduceToNat, List.reduceReplicate, Nat.reduceLeDiff, Nat.reduceLT, Int.reduceLT, Int.reduceLE, Int.reduceEq]; simp [totI]
  rintro j hj
  replace hj : j ≤ u := hj
  have hb1 := totI_part ha i j (by omega)
  by_cases hju : j < u
  · have hx := ha _ (nth_mem (show i + j < a.length by omega))
    have hs1 := totI_step (l := a.drop i) (i := j) (by rw [List.length_drop]; omega)
    have hn : nth (a.drop i) j = nth a (i + j) := by rw [nth_eq (by rw [List.length_drop]; omega), nth_eq (by omega), List.getElem_drop]
    rw [hn] at hs1
    have hin : ((i : Int) + j).toNat = i + j := by omega
    repeat' (first | with_reducible refine inw ?_ | simp (maxSteps := 900000) (disch := omega) only [go_sem, Nat.reduceEqDiff, ↓reduceIte, reduceCtorEq, Nat.reduceAdd, Nat.reduceMul, Int.reduceToNat, List.reduceReplicate, Nat.reduceLeDiff, Nat.reduceLT, Int.reduceLT, Int.reduceLE, Int.reduceEq, hin] | with_reducible refine giv_intro fun _h => ?_ | with_reducible refine alt_intro ?_ fun _h => ?_ | with_reducible refine pickD_nil ?_ | (with_reducible refine brc (fun _h => ?_) fun _h => ?_) <;> first | (exfalso; omega) | simp only [decide_eq_false _h] | simp only [(_h : (_ : Bool) = _)] | simp only [decide_eq_true _h] | skip)
    exact ⟨j + 1, ⟨by omega, by omega⟩, by omega, by omega⟩
  obtain rfl : j = u := by omega
  repeat' (first | with_reducible refine inw ?_ | simp (maxSteps := 900000) (disch := omega) only [go_sem, Nat.reduceEqDiff, ↓reduceIte, reduceCtorEq, Nat.reduceAdd, Nat.reduceMul, Int.reduceToNat, List.reduceReplicate, Nat.reduceLeDiff, Nat.reduceLT, Int.reduceLT, Int.reduceLE, Int.reduceEq] | with_reducible refine giv_intro fun _h => ?_ | with_reducible refine alt_intro ?_ fun _h => ?_ | with_reducible refine pickD_nil ?_ | (with_reducible refine brc (fun _h => ?_) fun _h => ?_) <;> first | (exfalso; omega) | simp only [decide_eq_false _h] | simp only [(_h : (_ : Bool) = _)] | simp only [decide_eq_true _h] | skip)
  generalize hX : totI ((a.drop i).take j) = X at *
  (refine loopC hS [1, 3, 4, 11] (by simp only [go_sem, Nat.reduceEqDiff, ↓reduceIte, reduceCtorEq, Nat.reduceAdd, Nat.reduceMul, Int.reduceToNat, List.reduceReplicate, Nat.reduceLeDiff, Nat.reduceLT, Int.reduceLT, Int.reduceLE, Int.reduceEq]; try rfl) (fun (m : Nat) => [(13, intA (X - totI ((b.drop k).take m))), (15, intA m)]) (fun (m : Nat) => [some (.row 41 2 [intA j, intA v])]) (fun (m : Nat) => m ≤ v) (fun (m : Nat) => v - m) (0) ?h02 ?hn2 ?rd2; case hn2 => (intro s; first | rfl | (rcases s with ⟨_, _⟩; rfl) | (rcases s with ⟨_, _, _⟩; rfl) | (rcases s with ⟨_, _, _, _⟩; rfl) | (rcases s with ⟨_, _, _, _, _⟩; rfl)))
  · simp (maxSteps := 900000) (disch := omega) only [go_sem, Nat.reduceEqDiff, ↓reduceIte, reduceCtorEq, Nat.reduceAdd, Nat.reduceMul, Int.reduceToNat, List.reduceReplicate, Nat.reduceLeDiff, Nat.reduceLT, Int.reduceLT, Int.reduceLE, Int.reduceEq]; simp [totI]
  rintro m hm
  replace hm : m ≤ v := hm
  have hb2 := totI_part hb k m (by omega)
  by_cases hmv : m < v
  · have hx := hb _ (nth_mem (show k + m < b.length by omega))
    have hs1 := totI_step (l := b.drop k) (i := m) (by rw [List.length_drop]; omega)
    have hn : nth (b.drop k) m = nth b (k + m) := by rw [nth_eq (by rw [List.length_drop]; omega), nth_eq (by omega), List.getElem_drop]
    rw [hn] at hs1
    have hin : ((k : Int) + m).toNat = k + m := by omega
    repeat' (first | with_reducible refine inw ?_ | simp (maxSteps := 900000) (disch := omega) only [go_sem, Nat.reduceEqDiff, ↓reduceIte, reduceCtorEq, Nat.reduceAdd, Nat.reduceMul, Int.reduceToNat, List.reduceReplicate, Nat.reduceLeDiff, Nat.reduceLT, Int.reduceLT, Int.reduceLE, Int.reduceEq, hin] | with_reducible refine giv_intro fun _h => ?_ | with_reducible refine alt_intro ?_ fun _h => ?_ | with_reducible refine pickD_nil ?_ | (with_reducible refine brc (fun _h => ?_) fun _h => ?_) <;> first | (exfalso; omega) | simp only [decide_eq_false _h] | simp only [(_h : (_ : Bool) = _)] | simp only [decide_eq_true _h] | skip)
    exact ⟨m + 1, ⟨by omega, by omega⟩, by omega, by omega⟩
  obtain rfl : m = v := by omega
  by_cases hq : (j : Int) ≠ 1 ∨ (m : Int) ≠ 1
  · rw [if_pos hq]
    repeat' (first | with_reducible refine inw ?_ | simp (maxSteps := 900000) (disch := omega) only [go_sem, Nat.reduceEqDiff, ↓reduceIte, reduceCtorEq, Nat.reduceAdd, Nat.reduceMul, Int.reduceToNat, List.reduceReplicate, Nat.reduceLeDiff, Nat.reduceLT, Int.reduceLT, Int.reduceLE, Int.reduceEq] | with_reducible refine giv_intro fun _h => ?_ | with_reducible refine alt_intro ?_ fun _h => ?_ | with_reducible refine pickD_nil ?_ | (with_reducible refine brc (fun _h => ?_) fun _h => ?_) <;> first | (exfalso; omega) | simp only [decide_eq_false _h] | simp only [(_h : (_ : Bool) = _)] | simp only [decide_eq_true _h] | skip)
  · rw [if_neg hq]
    repeat' (first | with_reducible refine inw ?_ | simp (maxSteps := 900000) (disch := omega) only [go_sem, Nat.reduceEqDiff, ↓reduceIte, reduceCtorEq, Nat.reduceAdd, Nat.reduceMul, Int.reduceToNat, List.reduceReplicate, Nat.reduceLeDiff, Nat.reduceLT, Int.reduceLT, Int.reduceLE, Int.reduceEq] | with_reducible refine giv_intro fun _h => ?_ | with_reducible refine alt_intro ?_ fun _h => ?_ | with_reducible refine pickD_nil ?_ | (with_reducible refine brc (fun _h => ?_) fun _h => ?_) <;> first | (exfalso; omega) | simp only [decide_eq_false _h] | simp only [(_h : (_ : Bool) = _)] | simp only [decide_eq_true _h] | skip)
    all_goals (exfalso; omega)
end Go.Proofs.Ytedbjmonfbpefaa.Ev

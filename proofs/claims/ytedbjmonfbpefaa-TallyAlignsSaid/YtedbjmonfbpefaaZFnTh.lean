/- tally.Align: the walk. -/
import Derived.Test.YtedbjmonfbpefaaZFnTg
set_option linter.unusedVariables false
set_option linter.unusedSimpArgs false
namespace Go.Proofs.Ytedbjmonfbpefaa.Ev
open Go Go.Proofs Go.RowKit

abbrev rowR (R : List Int) : Option Ob := some (.row 79 40401 (cellsL R))
/-- ablaut/tally.Align$2: 3 parameters, 4 captured -/
def s63 : SC := .seq (.reg [o1 9 (.box 41 2 (.t 2)),
   o1 10 (.mv (cI 0)),
   o1 11 (.mv (cB false))])
  (.seq (.seq (.reg [o1 13 (.mv (.t 0)),
     o1 14 (.faddr 0 (.t 9)),
     o1 15 (.load none (.t 14)),
     o1 16 (.bin .add (.t 13) (.t 15)),
     o1 17 (.load none (.t 3)),
     o1 18 (.lenL (.t 17)),
     o1 19 (.bin .gtr (.t 16) (.t 18)),
     o1 20 (.mv (.t 19)),
     oF 21 (.mv (.t 1)) 20,
     oF 22 (.faddr 1 (.t 9)) 20,
     oF 23 (.load none (.t 22)) 20,
     oF 24 (.bin .add (.t 21) (.t 23)) 20,
     oF 25 (.load none (.t 4)) 20,
     oF 26 (.lenL (.t 25)) 20,
     oF 27 (.bin .gtr (.t 24) (.t 26)) 20,
     o1 28 (.pick (.t 20) (cB true) (.t 27))])
    (.cond (.t 28) (.seq (.reg [o1 10 (.mv (cI 0)),
       o1 11 (.mv (cB false))])
      (.ret)) (.skip)))
   (.seq (.regD [o1 29 (.load none (.t 3)),
     o1 30 (.mv (.t 0)),
     o1 31 (.mv (.t 0)),
     o1 32 (.faddr 0 (.t 9)),
     o1 33 (.load none (.t 32)),
     o1 34 (.bin .add (.t 31) (.t 33)),
     o1 35 (.sl 1 (.t 29) (some (.t 30)) (some (.t 34))),
     o1 36 (.call (.f 64) [(.t 35)]),
     o1 37 (.load none (.t 4)),
     o1 38 (.mv (.t 1)),
     o1 39 (.mv (.t 1)),
     o1 40 (.faddr 1 (.t 9)),
     o1 41 (.load none (.t 40)),
     o1 42 (.bin .add (.t 39) (.t 41)),
     o1 43 (.sl 1 (.t 37) (some (.t 38)) (some (.t 42))),
     o1 44 (.call (.f 64) [(.t 43)]),
     o1 45 (.bin .sub (.t 36) (.t 44)),
     o1 12 (.mv (.t 45))])
    (.seq (.seq (.reg [o1 46 (.mv (.t 12)),
       o1 47 (.mv (.t 12)),
       o1 48 (.un .neg (.t 47)),
       o1 49 (.max (.t 46) (.t 48)),
       o1 12 (.mv (.t 49))])
      (.seq (.reg [o1 50 (.faddr 0 (.t 9)),
        o1 51 (.load none (.t 50)),
        o1 52 (.bin .neq (.t 51) (cI 1)),
        o1 53 (.mv (.t 52)),
        oF 54 (.faddr 1 (.t 9)) 53,
        oF 55 (.load none (.t 54)) 53,
        oF 56 (.bin .neq (.t 55) (cI 1)) 53,
        o1 57 (.pick (.t 53) (cB true) (.t 56))])
       (.cond (.t 57) (.reg [o1 58 (.mv (.t 12)),
         o1 59 (.load none (.t 5)),
         o1 60 (.bin .add (.t 58) (.t 59)),
         o1 12 (.mv (.t 60))]) (.skip))))
     (.seq (.regD [o1 61 (.mv (.t 12)),
       o1 62 (.mv (.t 0)),
       o1 63 (.faddr 0 (.t 9)),
       o1 64 (.load none (.t 63)),
       o1 65 (.bin .add (.t 62) (.t 64)),
       o1 66 (.mv (.t 1)),
       o1 67 (.faddr 1 (.t 9)),
       o1 68 (.load none (.t 67)),
       o1 69 (.bin .add (.t 66) (.t 68)),
       o1 70 (.iaddrA 201 201 (.t 6) (.t 65)),
       o1 71 (.iaddrA 201 1 (.t 70) (.t 69)),
       o1 72 (.load none (.t 71)),
       o1 73 (.bin .add (.t 61) (.t 72)),
       o1 10 (.mv (.t 73)),
       o1 11 (.mv (cB true))])
      (.ret)))))
theorem s63_ok : lookF Try.prog 63 = some (s63, 74, [.tmp 10, .tmp 11]) := by kernel_rfl
theorem find_at {g : Bead → Bool} {l : List Bead} {m : Nat} (hm : m < l.length) (hno : ∀ j, j < m → g (nth l j) = false) (hg : g (nth l m) = true) : l.find? g = some (nth l m) := by
  rw [List.find?_eq_some_iff_getElem]
  refine ⟨hg, m, hm, (nth_eq hm).symm, fun j hj => ?_⟩
  have := hno j hj
  rw [nth_eq (by omega)] at this
  rw [this]; rfl
abbrev alA (r : (List Bead × Int) × Int) : AV := .tup [sl r.1.1, intA r.1.2, intA r.2]
set_option maxRecDepth 10000 in
set_option maxHeartbeats 2000000 in
theorem Align_ok (a b : List Int) (s : Int) : Fn P 27 [sl a, sl b, intA s] (alA (alT a b s)) := by
  have k1 := intAny_ok a badN 61 [] (by simp) (fun x _ => alBad_ok x)
  have k2 := intAny_ok b badN 61 [] (by simp) (fun x _ => alBad_ok x)
  have k3 := alBad_ok s
  by_cases hL : 200 < a.length ∨ 200 < b.length
  · rw [alT, if_pos hL]
    by_cases hL2 : 200 < a.length
    · (refine fn_look s27_ok (by simp) (by intro k; simp only [go_sem, Nat.reduceEqDiff, ↓reduceIte, reduceCtorEq, Nat.reduceAdd, Nat.reduceMul, Int.reduceToNat, List.reduceReplicate, Nat.reduceLeDiff, Nat.reduceLT, Int.reduceLT, Int.reduceLE, Int.reduceEq]) fun S hS => cwp_sound _ _ _ _ ?_; simp (maxSteps := 900000) (disch := omega) only [s27, go_sem, Nat.reduceEqDiff, ↓reduceIte, reduceCtorEq, Nat.reduceAdd, Nat.reduceMul, Int.reduceToNat, List.reduceReplicate, Nat.reduceLeDiff, Nat.reduceLT, Int.reduceLT, Int.reduceLE, Int.reduceEq])
      repeat' (first | with_reducible refine inw ?_ | simp (maxSteps := 900000) (disch := omega) only [go_sem, Nat.reduceEqDiff, ↓reduceIte, reduceCtorEq, Nat.reduceAdd, Nat.reduceMul, Int.reduceToNat, List.reduceReplicate, Nat.reduceLeDiff, Nat.reduceLT, Int.reduceLT, Int.reduceLE, Int.reduceEq] | with_reducible refine giv_intro fun _h => ?_ | with_reducible refine alt_intro ?_ fun _h => ?_ | with_reducible refine pickD_nil ?_ | (with_reducible refine brc (fun _h => ?_) fun _h => ?_) <;> first | (exfalso; omega) | simp only [decide_eq_false _h] | simp only [(_h : (_ : Bool) = _)] | simp only [decide_eq_true _h] | skip)
      rfl
    · (refine fn_look s27_ok (by simp) (by intro k; simp only [go_sem, Nat.reduceEqDiff, ↓reduceIte, reduceCtorEq, Nat.reduceAdd, Nat.reduceMul, Int.reduceToNat, List.reduceReplicate, Nat.reduceLeDiff, Nat.reduceLT, Int.reduceLT, Int.reduceLE, Int.reduceEq]) fun S hS => cwp_sound _ _ _ _ ?_; simp (maxSteps := 900000) (disch := omega) only [s27, go_sem, Nat.reduceEqDiff, ↓reduceIte, reduceCtorEq, Nat.reduceAdd, Nat.reduceMul, Int.reduceToNat, List.reduceReplicate, Nat.reduceLeDiff, Nat.reduceLT, Int.reduceLT, Int.reduceLE, Int.reduceEq])
      repeat' (first | with_reducible refine inw ?_ | simp (maxSteps := 900000) (disch := omega) only [go_sem, Nat.reduceEqDiff, ↓reduceIte, reduceCtorEq, Nat.reduceAdd, Nat.reduceMul, Int.reduceToNat, List.reduceReplicate, Nat.reduceLeDiff, Nat.reduceLT, Int.reduceLT, Int.reduceLE, Int.reduceEq] | with_reducible refine giv_intro fun _h => ?_ | with_reducible refine alt_intro ?_ fun _h => ?_ | with_reducible refine pickD_nil ?_ | (with_reducible refine brc (fun _h => ?_) fun _h => ?_) <;> first | (exfalso; omega) | simp only [decide_eq_false _h] | simp only [(_h : (_ : Bool) = _)] | simp only [decide_eq_true _h] | skip)
      rfl
  by_cases hB : a.any badN = true ∨ b.any badN = true ∨ badN s = true
  · rw [alT, if_neg hL, if_pos hB]
    (refine fn_look s27_ok (by simp) (by intro k; simp only [go_sem, Nat.reduceEqDiff, ↓reduceIte, reduceCtorEq, Nat.reduceAdd, Nat.reduceMul, Int.reduceToNat, List.reduceReplicate, Nat.reduceLeDiff, Nat.reduceLT, Int.reduceLT, Int.reduceLE, Int.reduceEq]) fun S hS => cwp_sound _ _ _ _ ?_; simp (maxSteps := 900000) (disch := omega) only [s27, go_sem, Nat.reduceEqDiff, ↓reduceIte, reduceCtorEq, Nat.reduceAdd, Nat.reduceMul, Int.reduceToNat, List.reduceReplicate, Nat.reduceLeDiff, Nat.reduceLT, Int.reduceLT, Int.reduceLE, Int.reduceEq])
    repeat' (first | with_reducible refine inw ?_ | simp (maxSteps := 900000) (disch := omega) only [go_sem, Nat.reduceEqDiff, ↓reduceIte, reduceCtorEq, Nat.reduceAdd, Nat.reduceMul, Int.reduceToNat, List.reduceReplicate, Nat.reduceLeDiff, Nat.reduceLT, Int.reduceLT, Int.reduceLE, Int.reduceEq] | (with_reducible apply call (k1)); (focus simp (maxSteps := 900000) (disch := omega) only [go_sem, Nat.reduceEqDiff, ↓reduceIte, reduceCtorEq, Nat.reduceAdd, Nat.reduceMul, Int.reduceToNat, List.reduceReplicate, Nat.reduceLeDiff, Nat.reduceLT, Int.reduceLT, Int.reduceLE, Int.reduceEq] <;> rfl) | (with_reducible apply call (k2)); (focus simp (maxSteps := 900000) (disch := omega) only [go_sem, Nat.reduceEqDiff, ↓reduceIte, reduceCtorEq, Nat.reduceAdd, Nat.reduceMul, Int.reduceToNat, List.reduceReplicate, Nat.reduceLeDiff, Nat.reduceLT, Int.reduceLT, Int.reduceLE, Int.reduceEq] <;> rfl) | (with_reducible apply call (k3)); (focus simp (maxSteps := 900000) (disch := omega) only [go_sem, Nat.reduceEqDiff, ↓reduceIte, reduceCtorEq, Nat.reduceAdd, Nat.reduceMul, Int.reduceToNat, List.reduceReplicate, Nat.reduceLeDiff, Nat.reduceLT, Int.reduceLT, Int.reduceLE, Int.reduceEq] <;> rfl) | with_reducible refine giv_intro fun _h => ?_ | with_reducible refine alt_intro ?_ fun _h => ?_ | with_reducible refine pickD_nil ?_ | (with_reducible refine brc (fun _h => ?_) fun _h => ?_) <;> first | (exfalso; omega) | simp only [decide_eq_false _h] | simp only [(_h : (_ : Bool) = _)] | simp only [decide_eq_true _h] | skip)
    all_goals first | rfl | (exfalso; rcases hB with h | h | h <;> simp_all; done)
  rw [alT, if_neg hL, if_neg hB]
  have ha := any_ok (l := a) (by cases h : a.any badN; rfl; exact absurd (.inl h) hB)
  have hb := any_ok (l := b) (by cases h : b.any badN; rfl; exact absurd (.inr (.inl h)) hB)
  have hs : 0 ≤ s ∧ s ≤ 1000 := any_ok (l := [s]) (by cases h : badN s; simp [h]; exact absurd (.inr (.inr h)) hB) s (by simp)
  have e1 : a.any badN = false := by cases h : a.any badN; rfl; exact absurd (.inl h) hB
  have e2 : b.any badN = false := by cases h : b.any badN; rfl; exact absurd (.inr (.inl h)) hB
  have e3 : badN s = false := by cases h : badN s; rfl; exact absurd (.inr (.inr h)) hB
  rw [e1] at k1
  rw [e2] at k2
  rw [e3] at k3
  (refine fn_look s27_ok (by simp) (by intro k; simp only [go_sem, Nat.reduceEqDiff, ↓reduceIte, reduceCtorEq, Nat.reduceAdd, Nat.reduceMul, Int.reduceToNat, List.reduceReplicate, Nat.reduceLeDiff, Nat.reduceLT, Int.reduceLT, Int.reduceLE, Int.reduceEq]) fun S hS => cwp_sound _ _ _ _ ?_; simp (maxSteps := 900000) (disch := omega) only [s27, go_sem, Nat.reduceEqDiff, ↓reduceIte, reduceCtorEq, Nat.reduceAdd, Nat.reduceMul, Int.reduceToNat, List.reduceReplicate, Nat.reduceLeDiff, Nat.reduceLT, Int.reduceLT, Int.reduceLE, Int.reduceEq])
  repeat' (first | with_reducible refine inw ?_ | simp (maxSteps := 900000) (disch := omega) only [go_sem, Nat.reduceEqDiff, ↓reduceIte, reduceCtorEq, Nat.reduceAdd, Nat.reduceMul, Int.reduceToNat, List.reduceReplicate, Nat.reduceLeDiff, Nat.reduceLT, Int.reduceLT, Int.reduceLE, Int.reduceEq, z79, zV_len, zV_c] | (with_reducible apply call (k1)); (focus simp (maxSteps := 900000) (disch := omega) only [go_sem, Nat.reduceEqDiff, ↓reduceIte, reduceCtorEq, Nat.reduceAdd, Nat.reduceMul, Int.reduceToNat, List.reduceReplicate, Nat.reduceLeDiff, Nat.reduceLT, Int.reduceLT, Int.reduceLE, Int.reduceEq, z79, zV_len, zV_c] <;> rfl) | (with_reducible apply call (k2)); (focus simp (maxSteps := 900000) (disch := omega) only [go_sem, Nat.reduceEqDiff, ↓reduceIte, reduceCtorEq, Nat.reduceAdd, Nat.reduceMul, Int.reduceToNat, List.reduceReplicate, Nat.reduceLeDiff, Nat.reduceLT, Int.reduceLT, Int.reduceLE, Int.reduceEq, z79, zV_len, zV_c] <;> rfl) | (with_reducible apply call (k3)); (focus simp (maxSteps := 900000) (disch := omega) only [go_sem, Nat.reduceEqDiff, ↓reduceIte, reduceCtorEq, Nat.reduceAdd, Nat.reduceMul, Int.reduceToNat, List.reduceReplicate, Nat.reduceLeDiff, Nat.reduceLT, Int.reduceLT, Int.reduceLE, Int.reduceEq, z79, zV_len, zV_c] <;> rfl) | with_reducible refine giv_intro fun _h => ?_ | with_reducible refine alt_intro ?_ fun _h => ?_ | with_reducible refine pickD_nil ?_ | (with_reducible refine brc (fun _h => ?_) fun _h => ?_) <;> first | (exfalso; omega) | simp only [decide_eq_false _h] | simp only [(_h : (_ : Bool) = _)] | simp only [decide_eq_true _h] | skip)
  (refine loopC hS [3, 4, 10, 11] (by simp only [go_sem, Nat.reduceEqDiff, ↓reduceIte, reduceCtorEq, Nat.reduceAdd, Nat.reduceMul, Int.reduceToNat, List.reduceReplicate, Nat.reduceLeDiff, Nat.reduceLT, Int.reduceLT, Int.reduceLE, Int.reduceEq]; try rfl) (fun (⟨R, i⟩ : List Int × Nat) => [(12, intA ((i : Int) - 1))]) (fun (⟨R, i⟩ : List Int × Nat) => [rowO 36 [a], rowO 36 [b], rowO 3 [s], rowR R]) (fun (⟨R, i⟩ : List Int × Nat) => i ≤ a.length + 1 ∧ TabR a b s R i 0) (fun (⟨R, i⟩ : List Int × Nat) => i) ((zR, a.length + 1)) ?h01 ?hn1 ?rd1; case hn1 => (intro s; first | rfl | (rcases s with ⟨_, _⟩; rfl) | (rcases s with ⟨_, _, _⟩; rfl) | (rcases s with ⟨_, _, _, _⟩; rfl) | (rcases s with ⟨_, _, _, _, _⟩; rfl)))
  · simp (maxSteps := 900000) (disch := omega) only [go_sem, Nat.reduceEqDiff, ↓reduceIte, reduceCtorEq, Nat.reduceAdd, Nat.reduceMul, Int.reduceToNat, List.reduceReplicate, Nat.reduceLeDiff, Nat.reduceLT, Int.reduceLT, Int.reduceLE, Int.reduceEq]
    refine ⟨⟨zR_len, fun p q hp hq h => by omega⟩, by omega⟩
  rintro ⟨R, i⟩ ⟨hi, hR⟩
  replace hi : i ≤ a.length + 1 := hi
  replace hR : TabR a b s R i 0 := hR
  by_cases hi0 : i = 0
  · subst hi0
    repeat' (first | with_reducible refine inw ?_ | simp (maxSteps := 900000) (disch := omega) only [go_sem, Nat.reduceEqDiff, ↓reduceIte, reduceCtorEq, Nat.reduceAdd, Nat.reduceMul, Int.reduceToNat, List.reduceReplicate, Nat.reduceLeDiff, Nat.reduceLT, Int.reduceLT, Int.reduceLE, Int.reduceEq] | with_reducible refine giv_intro fun _h => ?_ | with_reducible refine alt_intro ?_ fun _h => ?_ | with_reducible refine pickD_nil ?_ | (with_reducible refine brc (fun _h => ?_) fun _h => ?_) <;> first | (exfalso; omega) | simp only [decide_eq_false _h] | simp only [(_h : (_ : Bool) = _)] | simp only [decide_eq_true _h] | skip)
    have hT : ∀ p q, p ≤ a.length → q ≤ b.length → nth R (201 * p + q) = tab a b s p q := fun p q hp hq => hR.2 p q hp hq (by omega)
    refine nil_row 18 41 2 (by simp (maxSteps := 900000) (disch := omega) only [go_sem, Nat.reduceEqDiff, ↓reduceIte, reduceCtorEq, Nat.reduceAdd, Nat.reduceMul, Int.reduceToNat, List.reduceReplicate, Nat.reduceLeDiff, Nat.reduceLT, Int.reduceLT, Int.reduceLE, Int.reduceEq]) ?_
    (refine loopC hS [3, 4, 10, 11] (by simp only [go_sem, Nat.reduceEqDiff, ↓reduceIte, reduceCtorEq, Nat.reduceAdd, Nat.reduceMul, Int.reduceToNat, List.reduceReplicate, Nat.reduceLeDiff, Nat.reduceLT, Int.reduceLT, Int.reduceLE, Int.reduceEq]; try rfl) (fun (⟨out, i, k⟩ : List Bead × Nat × Nat) => [(18, own S 4 out), (19, intA i), (20, intA k)]) (fun (⟨out, i, k⟩ : List Bead × Nat × Nat) => [rowO 36 [a], rowO 36 [b], rowO 3 [s], rowR R, rowO 41 out]) (fun (⟨out, i, k⟩ : List Bead × Nat × Nat) => i ≤ a.length ∧ k ≤ b.length ∧ out.length ≤ i + k ∧ pathB a b s 0 0 = out ++ pathB a b s i k) (fun (⟨out, i, k⟩ : List Bead × Nat × Nat) => (a.length - i) + (b.length - k)) (([], 0, 0)) ?h02 ?hn2 ?rd2; case hn2 => (intro s; first | rfl | (rcases s with ⟨_, _⟩; rfl) | (rcases s with ⟨_, _, _⟩; rfl) | (rcases s with ⟨_, _, _, _⟩; rfl) | (rcases s with ⟨_, _, _, _, _⟩; rfl)))
    · simp (maxSteps := 900000) (disch := omega) only [go_sem, Nat.reduceEqDiff, ↓reduceIte, reduceCtorEq, Nat.reduceAdd, Nat.reduceMul, Int.reduceToNat, List.reduceReplicate, Nat.reduceLeDiff, Nat.reduceLT, Int.reduceLT, Int.reduceLE, Int.reduceEq]
      exact ⟨Nat.zero_le _, Nat.zero_le _⟩
    rintro ⟨out, i, k⟩ ⟨hi2, hk2, ho, hp⟩
    replace hi2 : i ≤ a.length := hi2
    replace hk2 : k ≤ b.length := hk2
    replace ho : out.length ≤ i + k := ho
    replace hp : pathB a b s 0 0 = out ++ pathB a b s i k := hp
    have hbl : beads.length = 6 := rfl
    have hRl := hR.1
    have eR : ∀ (L : List (Option Ob)), rowAt (rowR R :: L) 0 40401 = some (79, 40401, cellsL R) := fun L => by
      rw [rowAt_zero, if_pos (by rw [cellsL_len, hRl])]
    by_cases hgo : i < a.length ∨ k < b.length
    · obtain ⟨x, x1, x2, x3, x4⟩ := find_good ha hb hs hi2 hk2 hgo
      rw [pathB_step hgo x1 hi2 hk2] at hp
      repeat' (first | with_reducible refine inw ?_ | simp (maxSteps := 900000) (disch := omega) only [go_sem, Nat.reduceEqDiff, ↓reduceIte, reduceCtorEq, Nat.reduceAdd, Nat.reduceMul, Int.reduceToNat, List.reduceReplicate, Nat.reduceLeDiff, Nat.reduceLT, Int.reduceLT, Int.reduceLE, Int.reduceEq] | (with_reducible apply call (kinds_ok)); (focus simp (maxSteps := 900000) (disch := omega) only [go_sem, Nat.reduceEqDiff, ↓reduceIte, reduceCtorEq, Nat.reduceAdd, Nat.reduceMul, Int.reduceToNat, List.reduceReplicate, Nat.reduceLeDiff, Nat.reduceLT, Int.reduceLT, Int.reduceLE, Int.reduceEq] <;> rfl) | with_reducible refine giv_intro fun _h => ?_ | with_reducible refine alt_intro ?_ fun _h => ?_ | with_reducible refine pickD_nil ?_ | (with_reducible refine brc (fun _h => ?_) fun _h => ?_) <;> first | (exfalso; omega) | simp only [decide_eq_false _h] | simp only [(_h : (_ : Bool) = _)] | simp only [decide_eq_true _h] | skip)
      · (refine loopC hS [3, 4, 10, 11, 125, 126] (by simp only [go_sem, Nat.reduceEqDiff, ↓reduceIte, reduceCtorEq, Nat.reduceAdd, Nat.reduceMul, Int.reduceToNat, List.reduceReplicate, Nat.reduceLeDiff, Nat.reduceLT, Int.reduceLT, Int.reduceLE, Int.reduceEq]; try rfl) (fun (m : Nat) => [(18, own S 4 out), (19, intA i), (20, intA k), (127, intA m)]) (fun (m : Nat) => [rowO 36 [a], rowO 36 [b], rowO 3 [s], rowR R, rowO 41 out]) (fun (m : Nat) => m ≤ 6 ∧ ∀ j, j < m → goodB a b s i k (nth beads j) = false) (fun (m : Nat) => 6 - m) (0) ?h03 ?hn3 ?rd3; case hn3 => (intro s; first | rfl | (rcases s with ⟨_, _⟩; rfl) | (rcases s with ⟨_, _, _⟩; rfl) | (rcases s with ⟨_, _, _, _⟩; rfl) | (rcases s with ⟨_, _, _, _, _⟩; rfl)))
        · simp (maxSteps := 900000) (disch := omega) only [go_sem, Nat.reduceEqDiff, ↓reduceIte, reduceCtorEq, Nat.reduceAdd, Nat.reduceMul, Int.reduceToNat, List.reduceReplicate, Nat.reduceLeDiff, Nat.reduceLT, Int.reduceLT, Int.reduceLE, Int.reduceEq]
          exact fun j hj => absurd hj (Nat.not_lt_zero _)
        rintro m ⟨hm, hno⟩
        replace hm : m ≤ 6 := hm
        by_cases hm6 : m < 6
        · obtain ⟨u, v, hx, hu, hv, huv⟩ := beads_at hm6
          have hn1 := congrArg Prod.fst hx
          have hn2 := congrArg Prod.snd hx
          dsimp only at hn1 hn2
          by_cases hf : i + u ≤ a.length ∧ k + v ≤ b.length
          · obtain ⟨hf1, hf2⟩ := hf
            have t1 := totI_part ha i u hu
            have t2 := totI_part hb k v hv
            have c1 := total_ok ((a.drop i).take u) (by rw [List.length_take]; omega) (fun x hx => ha x (List.mem_of_mem_drop (List.mem_of_mem_take hx)))
            have c2 := total_ok ((b.drop k).take v) (by rw [List.length_take]; omega) (fun x hx => hb x (List.mem_of_mem_drop (List.mem_of_mem_take hx)))
            have hu2 : ((i : Int) + u).toNat = i + u := by omega
            have hv2 : ((k : Int) + v).toNat = k + v := by omega
            have hu3 : i + u - i = u := by omega
            have hv3 : k + v - k = v := by omega
            have hTx : nth R ((i + u) * 201 + (k + v)) = tab a b s (i + u) (k + v) := by
              rw [← hT (i + u) (k + v) hf1 hf2]; congr 1; omega
            have hTy : nth R (i * 201 + k) = tab a b s i k := by
              rw [← hT i k hi2 hk2]; congr 1; omega
            have hTb := tab_le ha hb hs (by omega) (by omega) (i + u) (k + v)
            have hcl : costB a b s i k ((u : Int), (v : Int)) = if (u : Int) ≠ 1 ∨ (v : Int) ≠ 1 then max (totI ((a.drop i).take u) - totI ((b.drop k).take v)) (0 - (totI ((a.drop i).take u) - totI ((b.drop k).take v))) + s else max (totI ((a.drop i).take u) - totI ((b.drop k).take v)) (0 - (totI ((a.drop i).take u) - totI ((b.drop k).take v))) := by
              rw [costB]; simp only [absI, diffB, Int.toNat_natCast, Int.zero_sub]
            by_cases hq : (u : Int) ≠ 1 ∨ (v : Int) ≠ 1
            · rw [if_pos hq] at hcl
              repeat' (first | with_reducible refine inw ?_ | simp (maxSteps := 900000) (disch := omega) only [go_sem, Nat.reduceEqDiff, ↓reduceIte, reduceCtorEq, Nat.reduceAdd, Nat.reduceMul, Int.reduceToNat, List.reduceReplicate, Nat.reduceLeDiff, Nat.reduceLT, Int.reduceLT, Int.reduceLE, Int.reduceEq, z2_2, hn1, hn2, hu2, hv2, hu3, hv3, eR, hTx, hTy] | (with_reducible refine callI s63_ok (by simp) hS (cwp_sound _ _ _ _ ?_)); simp (maxSteps := 900000) (disch := omega) only [s63, go_sem, Nat.reduceEqDiff, ↓reduceIte, reduceCtorEq, Nat.reduceAdd, Nat.reduceMul, Int.reduceToNat, List.reduceReplicate, Nat.reduceLeDiff, Nat.reduceLT, Int.reduceLT, Int.reduceLE, Int.reduceEq, z2_2, hn1, hn2, hu2, hv2, hu3, hv3, eR, hTx, hTy] | (with_reducible apply call_D (c1)); (focus simp (maxSteps := 900000) (disch := omega) only [go_sem, Nat.reduceEqDiff, ↓reduceIte, reduceCtorEq, Nat.reduceAdd, Nat.reduceMul, Int.reduceToNat, List.reduceReplicate, Nat.reduceLeDiff, Nat.reduceLT, Int.reduceLT, Int.reduceLE, Int.reduceEq, z2_2, hn1, hn2, hu2, hv2, hu3, hv3, eR, hTx, hTy] <;> rfl) | (with_reducible apply call_D (c2)); (focus simp (maxSteps := 900000) (disch := omega) only [go_sem, Nat.reduceEqDiff, ↓reduceIte, reduceCtorEq, Nat.reduceAdd, Nat.reduceMul, Int.reduceToNat, List.reduceReplicate, Nat.reduceLeDiff, Nat.reduceLT, Int.reduceLT, Int.reduceLE, Int.reduceEq, z2_2, hn1, hn2, hu2, hv2, hu3, hv3, eR, hTx, hTy] <;> rfl) | with_reducible refine giv_intro fun _h => ?_ | with_reducible refine alt_intro ?_ fun _h => ?_ | with_reducible refine pickD_nil ?_ | (with_reducible refine brc (fun _h => ?_) fun _h => ?_) <;> first | (exfalso; omega) | simp only [decide_eq_false _h] | simp only [(_h : (_ : Bool) = _)] | simp only [decide_eq_true _h] | skip)
              all_goals
                have hyes : costB a b s i k ((u : Int), (v : Int)) + tab a b s (i + u) (k + v) = tab a b s i k → pathB a b s 0 0 = (out ++ [((u : Int), (v : Int))]) ++ pathB a b s (i + u) (k + v) := fun hc => by
                  have hg : goodB a b s i k (nth beads m) = true := by
                    rw [goodB, hx, Bool.and_eq_true, decide_eq_true_eq, decide_eq_true_eq]
                    exact ⟨⟨hf1, hf2⟩, hc⟩
                  obtain rfl : x = nth beads m := Option.some.inj (x1.symm.trans (find_at (by omega) hno hg))
                  rw [hp, hx, List.append_assoc]; rfl
                have hnot : costB a b s i k ((u : Int), (v : Int)) + tab a b s (i + u) (k + v) ≠ tab a b s i k → ∀ j, j < m + 1 → goodB a b s i k (nth beads j) = false := fun hc j hj => by
                  rcases Nat.lt_or_ge j m with h | h
                  · exact hno j h
                  · obtain rfl : j = m := by omega
                    rw [goodB, hx, decide_eq_true (show fitsB a b i k ((u : Int), (v : Int)) from ⟨hf1, hf2⟩), Bool.true_and, decide_eq_false_iff_not]
                    exact hc
                have hlen : (out ++ [((u : Int), (v : Int))]).length = out.length + 1 := by rw [List.length_append, List.length_singleton]
                have hwit : costB a b s i k ((u : Int), (v : Int)) + tab a b s (i + u) (k + v) = tab a b s i k → ∃ s' : List Bead × Nat × Nat,
                    (a.length - s'.2.1 + (b.length - s'.2.2) < a.length - i + (b.length - k) ∧ s'.2.1 ≤ a.length ∧ s'.2.2 ≤ b.length ∧ s'.1.length ≤ s'.2.1 + s'.2.2 ∧ pathB a b s 0 0 = s'.1 ++ pathB a b s s'.2.1 s'.2.2) ∧
                    (((out.length + 1) * 2 = s'.1.length * 2 ∧ out.length + 1 = s'.1.length) ∧ (i : Int) + u = s'.2.1 ∧ (k : Int) + v = s'.2.2) ∧ cellsL out ++ [intA u, intA v] = cellsL s'.1 := fun hc =>
                  ⟨(out ++ [((u : Int), (v : Int))], i + u, k + v), ⟨by show a.length - (i + u) + (b.length - (k + v)) < _; omega, hf1, hf2, by show (out ++ [((u : Int), (v : Int))]).length ≤ i + u + (k + v); omega, hyes hc⟩, ⟨⟨by rw [hlen], by rw [hlen]⟩, by show _ = ((i + u : Nat) : Int); omega, by show _ = ((k + v : Nat) : Int); omega⟩, by show cellsL out ++ cellsL [((u : Int), (v : Int))] = cellsL (out ++ [((u : Int), (v : Int))]); exact cellsL_app _ _⟩
                first
                  | exact hwit (by rw [hcl]; omega)
                  | exact ⟨m + 1, ⟨by omega, hm6, hnot (by rw [hcl]; omega)⟩, by omega⟩
            · rw [if_neg hq] at hcl
              repeat' (first | with_reducible refine inw ?_ | simp (maxSteps := 900000) (disch := omega) only [go_sem, Nat.reduceEqDiff, ↓reduceIte, reduceCtorEq, Nat.reduceAdd, Nat.reduceMul, Int.reduceToNat, List.reduceReplicate, Nat.reduceLeDiff, Nat.reduceLT, Int.reduceLT, Int.reduceLE, Int.reduceEq, z2_2, hn1, hn2, hu2, hv2, hu3, hv3, eR, hTx, hTy] | (with_reducible refine callI s63_ok (by simp) hS (cwp_sound _ _ _ _ ?_)); simp (maxSteps := 900000) (disch := omega) only [s63, go_sem, Nat.reduceEqDiff, ↓reduceIte, reduceCtorEq, Nat.reduceAdd, Nat.reduceMul, Int.reduceToNat, List.reduceReplicate, Nat.reduceLeDiff, Nat.reduceLT, Int.reduceLT, Int.reduceLE, Int.reduceEq, z2_2, hn1, hn2, hu2, hv2, hu3, hv3, eR, hTx, hTy] | (with_reducible apply call_D (c1)); (focus simp (maxSteps := 900000) (disch := omega) only [go_sem, Nat.reduceEqDiff, ↓reduceIte, reduceCtorEq, Nat.reduceAdd, Nat.reduceMul, Int.reduceToNat, List.reduceReplicate, Nat.reduceLeDiff, Nat.reduceLT, Int.reduceLT, Int.reduceLE, Int.reduceEq, z2_2, hn1, hn2, hu2, hv2, hu3, hv3, eR, hTx, hTy] <;> rfl) | (with_reducible apply call_D (c2)); (focus simp (maxSteps := 900000) (disch := omega) only [go_sem, Nat.reduceEqDiff, ↓reduceIte, reduceCtorEq, Nat.reduceAdd, Nat.reduceMul, Int.reduceToNat, List.reduceReplicate, Nat.reduceLeDiff, Nat.reduceLT, Int.reduceLT, Int.reduceLE, Int.reduceEq, z2_2, hn1, hn2, hu2, hv2, hu3, hv3, eR, hTx, hTy] <;> rfl) | with_reducible refine giv_intro fun _h => ?_ | with_reducible refine alt_intro ?_ fun _h => ?_ | with_reducible refine pickD_nil ?_ | (with_reducible refine brc (fun _h => ?_) fun _h => ?_) <;> first | (exfalso; omega) | simp only [decide_eq_false _h] | simp only [(_h : (_ : Bool) = _)] | simp only [decide_eq_true _h] | skip)
              all_goals
                have hyes : costB a b s i k ((u : Int), (v : Int)) + tab a b s (i + u) (k + v) = tab a b s i k → pathB a b s 0 0 = (out ++ [((u : Int), (v : Int))]) ++ pathB a b s (i + u) (k + v) := fun hc => by
                  have hg : goodB a b s i k (nth beads m) = true := by
                    rw [goodB, hx, Bool.and_eq_true, decide_eq_true_eq, decide_eq_true_eq]
                    exact ⟨⟨hf1, hf2⟩, hc⟩
                  obtain rfl : x = nth beads m := Option.some.inj (x1.symm.trans (find_at (by omega) hno hg))
                  rw [hp, hx, List.append_assoc]; rfl
                have hnot : costB a b s i k ((u : Int), (v : Int)) + tab a b s (i + u) (k + v) ≠ tab a b s i k → ∀ j, j < m + 1 → goodB a b s i k (nth beads j) = false := fun hc j hj => by
                  rcases Nat.lt_or_ge j m with h | h
                  · exact hno j h
                  · obtain rfl : j = m := by omega
                    rw [goodB, hx, decide_eq_true (show fitsB a b i k ((u : Int), (v : Int)) from ⟨hf1, hf2⟩), Bool.true_and, decide_eq_false_iff_not]
                    exact hc
                have hlen : (out ++ [((u : Int), (v : Int))]).length = out.length + 1 := by rw [List.length_append, List.length_singleton]
                have hwit : costB a b s i k ((u : Int), (v : Int)) + tab a b s (i + u) (k + v) = tab a b s i k → ∃ s' : List Bead × Nat × Nat,
                    (a.length - s'.2.1 + (b.length - s'.2.2) < a.length - i + (b.length - k) ∧ s'.2.1 ≤ a.length ∧ s'.2.2 ≤ b.length ∧ s'.1.length ≤ s'.2.1 + s'.2.2 ∧ pathB a b s 0 0 = s'.1 ++ pathB a b s s'.2.1 s'.2.2) ∧
                    (((out.length + 1) * 2 = s'.1.length * 2 ∧ out.length + 1 = s'.1.length) ∧ (i : Int) + u = s'.2.1 ∧ (k : Int) + v = s'.2.2) ∧ cellsL out ++ [intA u, intA v] = cellsL s'.1 := fun hc =>
                  ⟨(out ++ [((u : Int), (v : Int))], i + u, k + v), ⟨by show a.length - (i + u) + (b.length - (k + v)) < _; omega, hf1, hf2, by show (out ++ [((u : Int), (v : Int))]).length ≤ i + u + (k + v); omega, hyes hc⟩, ⟨⟨by rw [hlen], by rw [hlen]⟩, by show _ = ((i + u : Nat) : Int); omega, by show _ = ((k + v : Nat) : Int); omega⟩, by show cellsL out ++ cellsL [((u : Int), (v : Int))] = cellsL (out ++ [((u : Int), (v : Int))]); exact cellsL_app _ _⟩
                first
                  | exact hwit (by rw [hcl]; omega)
                  | exact ⟨m + 1, ⟨by omega, hm6, hnot (by rw [hcl]; omega)⟩, by omega⟩
          · have hg : goodB a b s i k (nth beads m) = false := by
              rw [goodB, hx, decide_eq_false (show ¬fitsB a b i k ((u : Int), (v : Int)) from fun h => hf h), Bool.false_and]
            repeat' (first | with_reducible refine inw ?_ | simp (maxSteps := 900000) (disch := omega) only [go_sem, Nat.reduceEqDiff, ↓reduceIte, reduceCtorEq, Nat.reduceAdd, Nat.reduceMul, Int.reduceToNat, List.reduceReplicate, Nat.reduceLeDiff, Nat.reduceLT, Int.reduceLT, Int.reduceLE, Int.reduceEq, z2_2, hn1, hn2, eR] | (with_reducible refine callI s63_ok (by simp) hS (cwp_sound _ _ _ _ ?_)); simp (maxSteps := 900000) (disch := omega) only [s63, go_sem, Nat.reduceEqDiff, ↓reduceIte, reduceCtorEq, Nat.reduceAdd, Nat.reduceMul, Int.reduceToNat, List.reduceReplicate, Nat.reduceLeDiff, Nat.reduceLT, Int.reduceLT, Int.reduceLE, Int.reduceEq, z2_2, hn1, hn2, eR] | with_reducible refine giv_intro fun _h => ?_ | with_reducible refine alt_intro ?_ fun _h => ?_ | with_reducible refine pickD_nil ?_ | (with_reducible refine brc (fun _h => ?_) fun _h => ?_) <;> first | (exfalso; omega) | simp only [decide_eq_false _h] | simp only [(_h : (_ : Bool) = _)] | simp only [decide_eq_true _h] | skip)
            all_goals exact ⟨m + 1, ⟨by omega, hm6, fun j hj => by
              rcases Nat.lt_or_ge j m with h | h
              · exact hno j h
              · obtain rfl : j = m := by omega
                exact hg⟩, by omega⟩
        · exfalso
          obtain ⟨j, hj, rfl⟩ := List.getElem_of_mem x2
          have := List.find?_some x1
          rw [← nth_eq hj, hno j (by omega)] at this
          cases this
      · (refine loopC hS [3, 4, 10, 11, 125, 126] (by simp only [go_sem, Nat.reduceEqDiff, ↓reduceIte, reduceCtorEq, Nat.reduceAdd, Nat.reduceMul, Int.reduceToNat, List.reduceReplicate, Nat.reduceLeDiff, Nat.reduceLT, Int.reduceLT, Int.reduceLE, Int.reduceEq]; try rfl) (fun (m : Nat) => [(18, own S 4 out), (19, intA i), (20, intA k), (127, intA m)]) (fun (m : Nat) => [rowO 36 [a], rowO 36 [b], rowO 3 [s], rowR R, rowO 41 out]) (fun (m : Nat) => m ≤ 6 ∧ ∀ j, j < m → goodB a b s i k (nth beads j) = false) (fun (m : Nat) => 6 - m) (0) ?h04 ?hn4 ?rd4; case hn4 => (intro s; first | rfl | (rcases s with ⟨_, _⟩; rfl) | (rcases s with ⟨_, _, _⟩; rfl) | (rcases s with ⟨_, _, _, _⟩; rfl) | (rcases s with ⟨_, _, _, _, _⟩; rfl)))
        · simp (maxSteps := 900000) (disch := omega) only [go_sem, Nat.reduceEqDiff, ↓reduceIte, reduceCtorEq, Nat.reduceAdd, Nat.reduceMul, Int.reduceToNat, List.reduceReplicate, Nat.reduceLeDiff, Nat.reduceLT, Int.reduceLT, Int.reduceLE, Int.reduceEq]
          exact fun j hj => absurd hj (Nat.not_lt_zero _)
        rintro m ⟨hm, hno⟩
        replace hm : m ≤ 6 := hm
        by_cases hm6 : m < 6
        · obtain ⟨u, v, hx, hu, hv, huv⟩ := beads_at hm6
          have hn1 := congrArg Prod.fst hx
          have hn2 := congrArg Prod.snd hx
          dsimp only at hn1 hn2
          by_cases hf : i + u ≤ a.length ∧ k + v ≤ b.length
          · obtain ⟨hf1, hf2⟩ := hf
            have t1 := totI_part ha i u hu
            have t2 := totI_part hb k v hv
            have c1 := total_ok ((a.drop i).take u) (by rw [List.length_take]; omega) (fun x hx => ha x (List.mem_of_mem_drop (List.mem_of_mem_take hx)))
            have c2 := total_ok ((b.drop k).take v) (by rw [List.length_take]; omega) (fun x hx => hb x (List.mem_of_mem_drop (List.mem_of_mem_take hx)))
            have hu2 : ((i : Int) + u).toNat = i + u := by omega
            have hv2 : ((k : Int) + v).toNat = k + v := by omega
            have hu3 : i + u - i = u := by omega
            have hv3 : k + v - k = v := by omega
            have hTx : nth R ((i + u) * 201 + (k + v)) = tab a b s (i + u) (k + v) := by
              rw [← hT (i + u) (k + v) hf1 hf2]; congr 1; omega
            have hTy : nth R (i * 201 + k) = tab a b s i k := by
              rw [← hT i k hi2 hk2]; congr 1; omega
            have hTb := tab_le ha hb hs (by omega) (by omega) (i + u) (k + v)
            have hcl : costB a b s i k ((u : Int), (v : Int)) = if (u : Int) ≠ 1 ∨ (v : Int) ≠ 1 then max (totI ((a.drop i).take u) - totI ((b.drop k).take v)) (0 - (totI ((a.drop i).take u) - totI ((b.drop k).take v))) + s else max (totI ((a.drop i).take u) - totI ((b.drop k).take v)) (0 - (totI ((a.drop i).take u) - totI ((b.drop k).take v))) := by
              rw [costB]; simp only [absI, diffB, Int.toNat_natCast, Int.zero_sub]
            by_cases hq : (u : Int) ≠ 1 ∨ (v : Int) ≠ 1
            · rw [if_pos hq] at hcl
              repeat' (first | with_reducible refine inw ?_ | simp (maxSteps := 900000) (disch := omega) only [go_sem, Nat.reduceEqDiff, ↓reduceIte, reduceCtorEq, Nat.reduceAdd, Nat.reduceMul, Int.reduceToNat, List.reduceReplicate, Nat.reduceLeDiff, Nat.reduceLT, Int.reduceLT, Int.reduceLE, Int.reduceEq, z2_2, hn1, hn2, hu2, hv2, hu3, hv3, eR, hTx, hTy] | (with_reducible refine callI s63_ok (by simp) hS (cwp_sound _ _ _ _ ?_)); simp (maxSteps := 900000) (disch := omega) only [s63, go_sem, Nat.reduceEqDiff, ↓reduceIte, reduceCtorEq, Nat.reduceAdd, Nat.reduceMul, Int.reduceToNat, List.reduceReplicate, Nat.reduceLeDiff, Nat.reduceLT, Int.reduceLT, Int.reduceLE, Int.reduceEq, z2_2, hn1, hn2, hu2, hv2, hu3, hv3, eR, hTx, hTy] | (with_reducible apply call_D (c1)); (focus simp (maxSteps := 900000) (disch := omega) only [go_sem, Nat.reduceEqDiff, ↓reduceIte, reduceCtorEq, Nat.reduceAdd, Nat.reduceMul, Int.reduceToNat, List.reduceReplicate, Nat.reduceLeDiff, Nat.reduceLT, Int.reduceLT, Int.reduceLE, Int.reduceEq, z2_2, hn1, hn2, hu2, hv2, hu3, hv3, eR, hTx, hTy] <;> rfl) | (with_reducible apply call_D (c2)); (focus simp (maxSteps := 900000) (disch := omega) only [go_sem, Nat.reduceEqDiff, ↓reduceIte, reduceCtorEq, Nat.reduceAdd, Nat.reduceMul, Int.reduceToNat, List.reduceReplicate, Nat.reduceLeDiff, Nat.reduceLT, Int.reduceLT, Int.reduceLE, Int.reduceEq, z2_2, hn1, hn2, hu2, hv2, hu3, hv3, eR, hTx, hTy] <;> rfl) | with_reducible refine giv_intro fun _h => ?_ | with_reducible refine alt_intro ?_ fun _h => ?_ | with_reducible refine pickD_nil ?_ | (with_reducible refine brc (fun _h => ?_) fun _h => ?_) <;> first | (exfalso; omega) | simp only [decide_eq_false _h] | simp only [(_h : (_ : Bool) = _)] | simp only [decide_eq_true _h] | skip)
              all_goals
                have hyes : costB a b s i k ((u : Int), (v : Int)) + tab a b s (i + u) (k + v) = tab a b s i k → pathB a b s 0 0 = (out ++ [((u : Int), (v : Int))]) ++ pathB a b s (i + u) (k + v) := fun hc => by
                  have hg : goodB a b s i k (nth beads m) = true := by
                    rw [goodB, hx, Bool.and_eq_true, decide_eq_true_eq, decide_eq_true_eq]
                    exact ⟨⟨hf1, hf2⟩, hc⟩
                  obtain rfl : x = nth beads m := Option.some.inj (x1.symm.trans (find_at (by omega) hno hg))
                  rw [hp, hx, List.append_assoc]; rfl
                have hnot : costB a b s i k ((u : Int), (v : Int)) + tab a b s (i + u) (k + v) ≠ tab a b s i k → ∀ j, j < m + 1 → goodB a b s i k (nth beads j) = false := fun hc j hj => by
                  rcases Nat.lt_or_ge j m with h | h
                  · exact hno j h
                  · obtain rfl : j = m := by omega
                    rw [goodB, hx, decide_eq_true (show fitsB a b i k ((u : Int), (v : Int)) from ⟨hf1, hf2⟩), Bool.true_and, decide_eq_false_iff_not]
                    exact hc
                have hlen : (out ++ [((u : Int), (v : Int))]).length = out.length + 1 := by rw [List.length_append, List.length_singleton]
                have hwit : costB a b s i k ((u : Int), (v : Int)) + tab a b s (i + u) (k + v) = tab a b s i k → ∃ s' : List Bead × Nat × Nat,
                    (a.length - s'.2.1 + (b.length - s'.2.2) < a.length - i + (b.length - k) ∧ s'.2.1 ≤ a.length ∧ s'.2.2 ≤ b.length ∧ s'.1.length ≤ s'.2.1 + s'.2.2 ∧ pathB a b s 0 0 = s'.1 ++ pathB a b s s'.2.1 s'.2.2) ∧
                    (((out.length + 1) * 2 = s'.1.length * 2 ∧ out.length + 1 = s'.1.length) ∧ (i : Int) + u = s'.2.1 ∧ (k : Int) + v = s'.2.2) ∧ cellsL out ++ [intA u, intA v] = cellsL s'.1 := fun hc =>
                  ⟨(out ++ [((u : Int), (v : Int))], i + u, k + v), ⟨by show a.length - (i + u) + (b.length - (k + v)) < _; omega, hf1, hf2, by show (out ++ [((u : Int), (v : Int))]).length ≤ i + u + (k + v); omega, hyes hc⟩, ⟨⟨by rw [hlen], by rw [hlen]⟩, by show _ = ((i + u : Nat) : Int); omega, by show _ = ((k + v : Nat) : Int); omega⟩, by show cellsL out ++ cellsL [((u : Int), (v : Int))] = cellsL (out ++ [((u : Int), (v : Int))]); exact cellsL_app _ _⟩
                first
                  | exact hwit (by rw [hcl]; omega)
                  | exact ⟨m + 1, ⟨by omega, hm6, hnot (by rw [hcl]; omega)⟩, by omega⟩
            · rw [if_neg hq] at hcl
              repeat' (first | with_reducible refine inw ?_ | simp (maxSteps := 900000) (disch := omega) only [go_sem, Nat.reduceEqDiff, ↓reduceIte, reduceCtorEq, Nat.reduceAdd, Nat.reduceMul, Int.reduceToNat, List.reduceReplicate, Nat.reduceLeDiff, Nat.reduceLT, Int.reduceLT, Int.reduceLE, Int.reduceEq, z2_2, hn1, hn2, hu2, hv2, hu3, hv3, eR, hTx, hTy] | (with_reducible refine callI s63_ok (by simp) hS (cwp_sound _ _ _ _ ?_)); simp (maxSteps := 900000) (disch := omega) only [s63, go_sem, Nat.reduceEqDiff, ↓reduceIte, reduceCtorEq, Nat.reduceAdd, Nat.reduceMul, Int.reduceToNat, List.reduceReplicate, Nat.reduceLeDiff, Nat.reduceLT, Int.reduceLT, Int.reduceLE, Int.reduceEq, z2_2, hn1, hn2, hu2, hv2, hu3, hv3, eR, hTx, hTy] | (with_reducible apply call_D (c1)); (focus simp (maxSteps := 900000) (disch := omega) only [go_sem, Nat.reduceEqDiff, ↓reduceIte, reduceCtorEq, Nat.reduceAdd, Nat.reduceMul, Int.reduceToNat, List.reduceReplicate, Nat.reduceLeDiff, Nat.reduceLT, Int.reduceLT, Int.reduceLE, Int.reduceEq, z2_2, hn1, hn2, hu2, hv2, hu3, hv3, eR, hTx, hTy] <;> rfl) | (with_reducible apply call_D (c2)); (focus simp (maxSteps := 900000) (disch := omega) only [go_sem, Nat.reduceEqDiff, ↓reduceIte, reduceCtorEq, Nat.reduceAdd, Nat.reduceMul, Int.reduceToNat, List.reduceReplicate, Nat.reduceLeDiff, Nat.reduceLT, Int.reduceLT, Int.reduceLE, Int.reduceEq, z2_2, hn1, hn2, hu2, hv2, hu3, hv3, eR, hTx, hTy] <;> rfl) | with_reducible refine giv_intro fun _h => ?_ | with_reducible refine alt_intro ?_ fun _h => ?_ | with_reducible refine pickD_nil ?_ | (with_reducible refine brc (fun _h => ?_) fun _h => ?_) <;> first | (exfalso; omega) | simp only [decide_eq_false _h] | simp only [(_h : (_ : Bool) = _)] | simp only [decide_eq_true _h] | skip)
              all_goals
                have hyes : costB a b s i k ((u : Int), (v : Int)) + tab a b s (i + u) (k + v) = tab a b s i k → pathB a b s 0 0 = (out ++ [((u : Int), (v : Int))]) ++ pathB a b s (i + u) (k + v) := fun hc => by
                  have hg : goodB a b s i k (nth beads m) = true := by
                    rw [goodB, hx, Bool.and_eq_true, decide_eq_true_eq, decide_eq_true_eq]
                    exact ⟨⟨hf1, hf2⟩, hc⟩
                  obtain rfl : x = nth beads m := Option.some.inj (x1.symm.trans (find_at (by omega) hno hg))
                  rw [hp, hx, List.append_assoc]; rfl
                have hnot : costB a b s i k ((u : Int), (v : Int)) + tab a b s (i + u) (k + v) ≠ tab a b s i k → ∀ j, j < m + 1 → goodB a b s i k (nth beads j) = false := fun hc j hj => by
                  rcases Nat.lt_or_ge j m with h | h
                  · exact hno j h
                  · obtain rfl : j = m := by omega
                    rw [goodB, hx, decide_eq_true (show fitsB a b i k ((u : Int), (v : Int)) from ⟨hf1, hf2⟩), Bool.true_and, decide_eq_false_iff_not]
                    exact hc
                have hlen : (out ++ [((u : Int), (v : Int))]).length = out.length + 1 := by rw [List.length_append, List.length_singleton]
                have hwit : costB a b s i k ((u : Int), (v : Int)) + tab a b s (i + u) (k + v) = tab a b s i k → ∃ s' : List Bead × Nat × Nat,
                    (a.length - s'.2.1 + (b.length - s'.2.2) < a.length - i + (b.length - k) ∧ s'.2.1 ≤ a.length ∧ s'.2.2 ≤ b.length ∧ s'.1.length ≤ s'.2.1 + s'.2.2 ∧ pathB a b s 0 0 = s'.1 ++ pathB a b s s'.2.1 s'.2.2) ∧
                    (((out.length + 1) * 2 = s'.1.length * 2 ∧ out.length + 1 = s'.1.length) ∧ (i : Int) + u = s'.2.1 ∧ (k : Int) + v = s'.2.2) ∧ cellsL out ++ [intA u, intA v] = cellsL s'.1 := fun hc =>
                  ⟨(out ++ [((u : Int), (v : Int))], i + u, k + v), ⟨by show a.length - (i + u) + (b.length - (k + v)) < _; omega, hf1, hf2, by show (out ++ [((u : Int), (v : Int))]).length ≤ i + u + (k + v); omega, hyes hc⟩, ⟨⟨by rw [hlen], by rw [hlen]⟩, by show _ = ((i + u : Nat) : Int); omega, by show _ = ((k + v : Nat) : Int); omega⟩, by show cellsL out ++ cellsL [((u : Int), (v : Int))] = cellsL (out ++ [((u : Int), (v : Int))]); exact cellsL_app _ _⟩
                first
                  | exact hwit (by rw [hcl]; omega)
                  | exact ⟨m + 1, ⟨by omega, hm6, hnot (by rw [hcl]; omega)⟩, by omega⟩
          · have hg : goodB a b s i k (nth beads m) = false := by
              rw [goodB, hx, decide_eq_false (show ¬fitsB a b i k ((u : Int), (v : Int)) from fun h => hf h), Bool.false_and]
            repeat' (first | with_reducible refine inw ?_ | simp (maxSteps := 900000) (disch := omega) only [go_sem, Nat.reduceEqDiff, ↓reduceIte, reduceCtorEq, Nat.reduceAdd, Nat.reduceMul, Int.reduceToNat, List.reduceReplicate, Nat.reduceLeDiff, Nat.reduceLT, Int.reduceLT, Int.reduceLE, Int.reduceEq, z2_2, hn1, hn2, eR] | (with_reducible refine callI s63_ok (by simp) hS (cwp_sound _ _ _ _ ?_)); simp (maxSteps := 900000) (disch := omega) only [s63, go_sem, Nat.reduceEqDiff, ↓reduceIte, reduceCtorEq, Nat.reduceAdd, Nat.reduceMul, Int.reduceToNat, List.reduceReplicate, Nat.reduceLeDiff, Nat.reduceLT, Int.reduceLT, Int.reduceLE, Int.reduceEq, z2_2, hn1, hn2, eR] | with_reducible refine giv_intro fun _h => ?_ | with_reducible refine alt_intro ?_ fun _h => ?_ | with_reducible refine pickD_nil ?_ | (with_reducible refine brc (fun _h => ?_) fun _h => ?_) <;> first | (exfalso; omega) | simp only [decide_eq_false _h] | simp only [(_h : (_ : Bool) = _)] | simp only [decide_eq_true _h] | skip)
            all_goals exact ⟨m + 1, ⟨by omega, hm6, fun j hj => by
              rcases Nat.lt_or_ge j m with h | h
              · exact hno j h
              · obtain rfl : j = m := by omega
                exact hg⟩, by omega⟩
        · exfalso
          obtain ⟨j, hj, rfl⟩ := List.getElem_of_mem x2
          have := List.find?_some x1
          rw [← nth_eq hj, hno j (by omega)] at this
          cases this
    · rw [pathB_end hgo, List.append_nil] at hp
      rw [hp]
      have h00 : nth R 0 = tab a b s 0 0 := hT 0 0 (Nat.zero_le _) (Nat.zero_le _)
      repeat' (first | with_reducible refine inw ?_ | simp (maxSteps := 900000) (disch := omega) only [go_sem, Nat.reduceEqDiff, ↓reduceIte, reduceCtorEq, Nat.reduceAdd, Nat.reduceMul, Int.reduceToNat, List.reduceReplicate, Nat.reduceLeDiff, Nat.reduceLT, Int.reduceLT, Int.reduceLE, Int.reduceEq, eR, h00] | with_reducible refine giv_intro fun _h => ?_ | with_reducible refine alt_intro ?_ fun _h => ?_ | with_reducible refine pickD_nil ?_ | (with_reducible refine brc (fun _h => ?_) fun _h => ?_) <;> first | (exfalso; omega) | simp only [decide_eq_false _h] | simp only [(_h : (_ : Bool) = _)] | simp only [decide_eq_true _h] | skip)
  obtain ⟨i, rfl⟩ : ∃ j, i = j + 1 := ⟨i - 1, by omega⟩
  have ei : ((i + 1 : Nat) : Int) - 1 = (i : Int) := by omega
  repeat' (first | with_reducible refine inw ?_ | simp (maxSteps := 900000) (disch := omega) only [go_sem, Nat.reduceEqDiff, ↓reduceIte, reduceCtorEq, Nat.reduceAdd, Nat.reduceMul, Int.reduceToNat, List.reduceReplicate, Nat.reduceLeDiff, Nat.reduceLT, Int.reduceLT, Int.reduceLE, Int.reduceEq, ei] | with_reducible refine giv_intro fun _h => ?_ | with_reducible refine alt_intro ?_ fun _h => ?_ | with_reducible refine pickD_nil ?_ | (with_reducible refine brc (fun _h => ?_) fun _h => ?_) <;> first | (exfalso; omega) | simp only [decide_eq_false _h] | simp only [(_h : (_ : Bool) = _)] | simp only [decide_eq_true _h] | skip)
  (refine loopC hS [3, 4, 10, 11, 12] (by simp only [go_sem, Nat.reduceEqDiff, ↓reduceIte, reduceCtorEq, Nat.reduceAdd, Nat.reduceMul, Int.reduceToNat, List.reduceReplicate, Nat.reduceLeDiff, Nat.reduceLT, Int.reduceLT, Int.reduceLE, Int.reduceEq]; try rfl) (fun (⟨R, k⟩ : List Int × Nat) => [(13, intA ((k : Int) - 1))]) (fun (⟨R, k⟩ : List Int × Nat) => [rowO 36 [a], rowO 36 [b], rowO 3 [s], rowR R]) (fun (⟨R, k⟩ : List Int × Nat) => k ≤ b.length + 1 ∧ TabR a b s R i k) (fun (⟨R, k⟩ : List Int × Nat) => k) ((R, b.length + 1)) ?h05 ?hn5 ?rd5; case hn5 => (intro s; first | rfl | (rcases s with ⟨_, _⟩; rfl) | (rcases s with ⟨_, _, _⟩; rfl) | (rcases s with ⟨_, _, _, _⟩; rfl) | (rcases s with ⟨_, _, _, _, _⟩; rfl)))
  · simp (maxSteps := 900000) (disch := omega) only [go_sem, Nat.reduceEqDiff, ↓reduceIte, reduceCtorEq, Nat.reduceAdd, Nat.reduceMul, Int.reduceToNat, List.reduceReplicate, Nat.reduceLeDiff, Nat.reduceLT, Int.reduceLT, Int.reduceLE, Int.reduceEq]
    refine ⟨⟨hR.1, fun p q hp hq h => hR.2 p q hp hq ?_⟩, by omega⟩
    omega
  rintro ⟨R2, k⟩ ⟨hk, hR2⟩
  replace hk : k ≤ b.length + 1 := hk
  replace hR2 : TabR a b s R2 i k := hR2
  by_cases hk0 : k = 0
  · subst hk0
    replace hR2 : TabR a b s R2 i 0 := hR2
    repeat' (first | with_reducible refine inw ?_ | simp (maxSteps := 900000) (disch := omega) only [go_sem, Nat.reduceEqDiff, ↓reduceIte, reduceCtorEq, Nat.reduceAdd, Nat.reduceMul, Int.reduceToNat, List.reduceReplicate, Nat.reduceLeDiff, Nat.reduceLT, Int.reduceLT, Int.reduceLE, Int.reduceEq, ei] | with_reducible refine giv_intro fun _h => ?_ | with_reducible refine alt_intro ?_ fun _h => ?_ | with_reducible refine pickD_nil ?_ | (with_reducible refine brc (fun _h => ?_) fun _h => ?_) <;> first | (exfalso; omega) | simp only [decide_eq_false _h] | simp only [(_h : (_ : Bool) = _)] | simp only [decide_eq_true _h] | skip)
    exact ⟨(R2, i), ⟨Nat.lt_succ_self _, by show i ≤ a.length + 1; omega, hR2⟩, rfl, rfl⟩
  obtain ⟨k, rfl⟩ : ∃ j, k = j + 1 := ⟨k - 1, by omega⟩
  have ek : ((k + 1 : Nat) : Int) - 1 = (k : Int) := by omega
  have hRl := hR2.1
  have hj : i * 201 + k < R2.length := by omega
  have eR : ∀ (X : List Int) (L : List (Option Ob)), X.length = 40401 → rowAt (rowR X :: L) 0 40401 = some (79, 40401, cellsL X) := fun X L h => by
    rw [rowAt_zero, if_pos (by rw [cellsL_len, h])]
  have hP1 : (putAt R2 (i * 201 + k) (-1)).length = 40401 := (putAt_len hj (-1)).trans hRl
  have eP := fun L => eR (putAt R2 (i * 201 + k) (-1)) L hP1
  have eR2 := fun L => eR R2 L hRl
  have j2 : i * 201 + k = 201 * i + k := by omega
  have hbl : beads.length = 6 := rfl
  have hN1 : ∀ (R3 : List Int) (x : Int), R3.length = 40401 → (∀ p q, p ≤ a.length → q ≤ b.length → (i < p ∨ (p = i ∧ k + 1 ≤ q)) → nth R3 (201 * p + q) = tab a b s p q) → (∀ p q, p ≤ a.length → q ≤ b.length → (i < p ∨ (p = i ∧ k + 1 ≤ q)) → nth (putAt R3 (i * 201 + k) x) (201 * p + q) = tab a b s p q) := fun R3 x hl h p q hp hq hc => by
    rw [nth_putC (by omega), if_neg (by omega)]
    exact h p q hp hq hc
  have hN2 : ∀ (R3 : List Int) (x : Int), R3.length = 40401 → nth (putAt R3 (i * 201 + k) x) (201 * i + k) = x := fun R3 x hl => by
    rw [nth_putC (by omega), if_pos (by omega)]
  by_cases hend : i = a.length ∧ k = b.length
  · obtain ⟨hy1, hy2⟩ := hend
    repeat' (first | with_reducible refine inw ?_ | simp (maxSteps := 900000) (disch := omega) only [go_sem, Nat.reduceEqDiff, ↓reduceIte, reduceCtorEq, Nat.reduceAdd, Nat.reduceMul, Int.reduceToNat, List.reduceReplicate, Nat.reduceLeDiff, Nat.reduceLT, Int.reduceLT, Int.reduceLE, Int.reduceEq, ei, ek, eR2, eP, put_fold1] | (with_reducible apply call (kinds_ok)); (focus simp (maxSteps := 900000) (disch := omega) only [go_sem, Nat.reduceEqDiff, ↓reduceIte, reduceCtorEq, Nat.reduceAdd, Nat.reduceMul, Int.reduceToNat, List.reduceReplicate, Nat.reduceLeDiff, Nat.reduceLT, Int.reduceLT, Int.reduceLE, Int.reduceEq, ei, ek, eR2, eP, put_fold1] <;> rfl) | with_reducible refine giv_intro fun _h => ?_ | with_reducible refine alt_intro ?_ fun _h => ?_ | with_reducible refine pickD_nil ?_ | (with_reducible refine brc (fun _h => ?_) fun _h => ?_) <;> first | (exfalso; omega) | simp only [decide_eq_false _h] | simp only [(_h : (_ : Bool) = _)] | simp only [decide_eq_true _h] | skip)
    have h3l : (putAt (putAt R2 (i * 201 + k) (-1)) (i * 201 + k) 0).length = 40401 := (putAt_len (by omega) 0).trans hP1
    have h3t := hN1 _ 0 hP1 (hN1 _ (-1) hRl hR2.2)
    have h3v : _ = begB a b i k := (hN2 _ 0 hP1).trans (by rw [begB, if_pos ⟨hy1, hy2⟩])
    generalize putAt (putAt R2 (i * 201 + k) (-1)) (i * 201 + k) 0 = R3 at *
    (refine loopC hS [3, 4, 10, 11, 12, 13, 77, 78] (by simp only [go_sem, Nat.reduceEqDiff, ↓reduceIte, reduceCtorEq, Nat.reduceAdd, Nat.reduceMul, Int.reduceToNat, List.reduceReplicate, Nat.reduceLeDiff, Nat.reduceLT, Int.reduceLT, Int.reduceLE, Int.reduceEq]; try rfl) (fun (⟨R4, m⟩ : List Int × Nat) => [(79, intA m)]) (fun (⟨R4, m⟩ : List Int × Nat) => [rowO 36 [a], rowO 36 [b], rowO 3 [s], rowR R4]) (fun (⟨R4, m⟩ : List Int × Nat) => m ≤ 6 ∧ R4.length = 40401 ∧ (∀ p q, p ≤ a.length → q ≤ b.length → (i < p ∨ (p = i ∧ k + 1 ≤ q)) → nth R4 (201 * p + q) = tab a b s p q) ∧ nth R4 (201 * i + k) = foldB a b s (tab a b s) i k (beads.take m) (begB a b i k)) (fun (⟨R4, m⟩ : List Int × Nat) => 6 - m) ((R3, 0)) ?h06 ?hn6 ?rd6; case hn6 => (intro s; first | rfl | (rcases s with ⟨_, _⟩; rfl) | (rcases s with ⟨_, _, _⟩; rfl) | (rcases s with ⟨_, _, _, _⟩; rfl) | (rcases s with ⟨_, _, _, _, _⟩; rfl)))
    · simp (maxSteps := 900000) (disch := omega) only [go_sem, Nat.reduceEqDiff, ↓reduceIte, reduceCtorEq, Nat.reduceAdd, Nat.reduceMul, Int.reduceToNat, List.reduceReplicate, Nat.reduceLeDiff, Nat.reduceLT, Int.reduceLT, Int.reduceLE, Int.reduceEq]
      exact ⟨h3l, h3t, h3v⟩
    rintro ⟨R4, m⟩ ⟨hm, h4l, h4t, h4v⟩
    replace hm : m ≤ 6 := hm
    replace h4l : R4.length = 40401 := h4l
    by_cases hm6 : m < 6
    · obtain ⟨u, v, hx, hu, hv, huv⟩ := beads_at hm6
      have e41 := fun L => eR R4 L h4l
      have hn1 := congrArg Prod.fst hx
      have hn2 := congrArg Prod.snd hx
      dsimp only at hn1 hn2
      by_cases hf1 : i + u ≤ a.length
      · by_cases hf2 : k + v ≤ b.length
        · have t1 := totI_part ha i u hu
          have t2 := totI_part hb k v hv
          have c1 := total_ok ((a.drop i).take u) (by rw [List.length_take]; omega) (fun x hx => ha x (List.mem_of_mem_drop (List.mem_of_mem_take hx)))
          have c2 := total_ok ((b.drop k).take v) (by rw [List.length_take]; omega) (fun x hx => hb x (List.mem_of_mem_drop (List.mem_of_mem_take hx)))
          have hu2 : ((i : Int) + u).toNat = i + u := by omega
          have hv2 : ((k : Int) + v).toNat = k + v := by omega
          have hu3 : i + u - i = u := by omega
          have hv3 : k + v - k = v := by omega
          have hT : nth R4 ((i + u) * 201 + (k + v)) = tab a b s (i + u) (k + v) := by
            rw [← h4t (i + u) (k + v) hf1 hf2 (by omega)]; congr 1; omega
          have hTb := tab_le ha hb hs (by omega) (by omega) (i + u) (k + v)
          have h4w : nth R4 (i * 201 + k) = foldB a b s (tab a b s) i k (beads.take m) (begB a b i k) := by rw [← h4v, j2]
          have hst := foldB_step (a := a) (b := b) (s := s) (t := tab a b s) (i := i) (k := k) (r := begB a b i k) hm6 hx
          rw [if_pos ⟨hf1, hf2⟩, ← h4w, minB] at hst
          have hcl : costB a b s i k ((u : Int), (v : Int)) = if (u : Int) ≠ 1 ∨ (v : Int) ≠ 1 then max (totI ((a.drop i).take u) - totI ((b.drop k).take v)) (0 - (totI ((a.drop i).take u) - totI ((b.drop k).take v))) + s else max (totI ((a.drop i).take u) - totI ((b.drop k).take v)) (0 - (totI ((a.drop i).take u) - totI ((b.drop k).take v))) := by
            rw [costB]; simp only [absI, diffB, Int.toNat_natCast, Int.zero_sub]
          by_cases hq : (u : Int) ≠ 1 ∨ (v : Int) ≠ 1
          · rw [if_pos hq] at hcl
            repeat' (first | with_reducible refine inw ?_ | simp (maxSteps := 900000) (disch := omega) only [go_sem, Nat.reduceEqDiff, ↓reduceIte, reduceCtorEq, Nat.reduceAdd, Nat.reduceMul, Int.reduceToNat, List.reduceReplicate, Nat.reduceLeDiff, Nat.reduceLT, Int.reduceLT, Int.reduceLE, Int.reduceEq, z2_2, hn1, hn2, hu2, hv2, hu3, hv3, e41, hT, put_fold1] | (with_reducible refine callI s63_ok (by simp) hS (cwp_sound _ _ _ _ ?_)); simp (maxSteps := 900000) (disch := omega) only [s63, go_sem, Nat.reduceEqDiff, ↓reduceIte, reduceCtorEq, Nat.reduceAdd, Nat.reduceMul, Int.reduceToNat, List.reduceReplicate, Nat.reduceLeDiff, Nat.reduceLT, Int.reduceLT, Int.reduceLE, Int.reduceEq, z2_2, hn1, hn2, hu2, hv2, hu3, hv3, e41, hT, put_fold1] | (with_reducible apply call_D (c1)); (focus simp (maxSteps := 900000) (disch := omega) only [go_sem, Nat.reduceEqDiff, ↓reduceIte, reduceCtorEq, Nat.reduceAdd, Nat.reduceMul, Int.reduceToNat, List.reduceReplicate, Nat.reduceLeDiff, Nat.reduceLT, Int.reduceLT, Int.reduceLE, Int.reduceEq, z2_2, hn1, hn2, hu2, hv2, hu3, hv3, e41, hT, put_fold1] <;> rfl) | (with_reducible apply call_D (c2)); (focus simp (maxSteps := 900000) (disch := omega) only [go_sem, Nat.reduceEqDiff, ↓reduceIte, reduceCtorEq, Nat.reduceAdd, Nat.reduceMul, Int.reduceToNat, List.reduceReplicate, Nat.reduceLeDiff, Nat.reduceLT, Int.reduceLT, Int.reduceLE, Int.reduceEq, z2_2, hn1, hn2, hu2, hv2, hu3, hv3, e41, hT, put_fold1] <;> rfl) | with_reducible refine giv_intro fun _h => ?_ | with_reducible refine alt_intro ?_ fun _h => ?_ | with_reducible refine pickD_nil ?_ | (with_reducible refine brc (fun _h => ?_) fun _h => ?_) <;> first | (exfalso; omega) | simp only [decide_eq_false _h] | simp only [(_h : (_ : Bool) = _)] | simp only [decide_eq_true _h] | skip)
            all_goals first
              | exact ⟨(putAt R4 (i * 201 + k) _, m + 1), ⟨by show 6 - (m + 1) < _; omega, hm6, (putAt_len (by omega) _).trans h4l, hN1 R4 _ h4l h4t, (hN2 R4 _ h4l).trans (by rw [hst, if_pos (by omega), hcl])⟩, by show (m : Int) + 1 = ((m + 1 : Nat) : Int); omega, rfl⟩
              | exact ⟨(R4, m + 1), ⟨by show 6 - (m + 1) < _; omega, hm6, h4l, h4t, (by rw [hst, if_neg (by omega), j2])⟩, by show (m : Int) + 1 = ((m + 1 : Nat) : Int); omega, rfl⟩
          · rw [if_neg hq] at hcl
            repeat' (first | with_reducible refine inw ?_ | simp (maxSteps := 900000) (disch := omega) only [go_sem, Nat.reduceEqDiff, ↓reduceIte, reduceCtorEq, Nat.reduceAdd, Nat.reduceMul, Int.reduceToNat, List.reduceReplicate, Nat.reduceLeDiff, Nat.reduceLT, Int.reduceLT, Int.reduceLE, Int.reduceEq, z2_2, hn1, hn2, hu2, hv2, hu3, hv3, e41, hT, put_fold1] | (with_reducible refine callI s63_ok (by simp) hS (cwp_sound _ _ _ _ ?_)); simp (maxSteps := 900000) (disch := omega) only [s63, go_sem, Nat.reduceEqDiff, ↓reduceIte, reduceCtorEq, Nat.reduceAdd, Nat.reduceMul, Int.reduceToNat, List.reduceReplicate, Nat.reduceLeDiff, Nat.reduceLT, Int.reduceLT, Int.reduceLE, Int.reduceEq, z2_2, hn1, hn2, hu2, hv2, hu3, hv3, e41, hT, put_fold1] | (with_reducible apply call_D (c1)); (focus simp (maxSteps := 900000) (disch := omega) only [go_sem, Nat.reduceEqDiff, ↓reduceIte, reduceCtorEq, Nat.reduceAdd, Nat.reduceMul, Int.reduceToNat, List.reduceReplicate, Nat.reduceLeDiff, Nat.reduceLT, Int.reduceLT, Int.reduceLE, Int.reduceEq, z2_2, hn1, hn2, hu2, hv2, hu3, hv3, e41, hT, put_fold1] <;> rfl) | (with_reducible apply call_D (c2)); (focus simp (maxSteps := 900000) (disch := omega) only [go_sem, Nat.reduceEqDiff, ↓reduceIte, reduceCtorEq, Nat.reduceAdd, Nat.reduceMul, Int.reduceToNat, List.reduceReplicate, Nat.reduceLeDiff, Nat.reduceLT, Int.reduceLT, Int.reduceLE, Int.reduceEq, z2_2, hn1, hn2, hu2, hv2, hu3, hv3, e41, hT, put_fold1] <;> rfl) | with_reducible refine giv_intro fun _h => ?_ | with_reducible refine alt_intro ?_ fun _h => ?_ | with_reducible refine pickD_nil ?_ | (with_reducible refine brc (fun _h => ?_) fun _h => ?_) <;> first | (exfalso; omega) | simp only [decide_eq_false _h] | simp only [(_h : (_ : Bool) = _)] | simp only [decide_eq_true _h] | skip)
            all_goals first
              | exact ⟨(putAt R4 (i * 201 + k) _, m + 1), ⟨by show 6 - (m + 1) < _; omega, hm6, (putAt_len (by omega) _).trans h4l, hN1 R4 _ h4l h4t, (hN2 R4 _ h4l).trans (by rw [hst, if_pos (by omega), hcl])⟩, by show (m : Int) + 1 = ((m + 1 : Nat) : Int); omega, rfl⟩
              | exact ⟨(R4, m + 1), ⟨by show 6 - (m + 1) < _; omega, hm6, h4l, h4t, (by rw [hst, if_neg (by omega), j2])⟩, by show (m : Int) + 1 = ((m + 1 : Nat) : Int); omega, rfl⟩
        · repeat' (first | with_reducible refine inw ?_ | simp (maxSteps := 900000) (disch := omega) only [go_sem, Nat.reduceEqDiff, ↓reduceIte, reduceCtorEq, Nat.reduceAdd, Nat.reduceMul, Int.reduceToNat, List.reduceReplicate, Nat.reduceLeDiff, Nat.reduceLT, Int.reduceLT, Int.reduceLE, Int.reduceEq, z2_2, hn1, hn2, e41] | (with_reducible refine callI s63_ok (by simp) hS (cwp_sound _ _ _ _ ?_)); simp (maxSteps := 900000) (disch := omega) only [s63, go_sem, Nat.reduceEqDiff, ↓reduceIte, reduceCtorEq, Nat.reduceAdd, Nat.reduceMul, Int.reduceToNat, List.reduceReplicate, Nat.reduceLeDiff, Nat.reduceLT, Int.reduceLT, Int.reduceLE, Int.reduceEq, z2_2, hn1, hn2, e41] | with_reducible refine giv_intro fun _h => ?_ | with_reducible refine alt_intro ?_ fun _h => ?_ | with_reducible refine pickD_nil ?_ | (with_reducible refine brc (fun _h => ?_) fun _h => ?_) <;> first | (exfalso; omega) | simp only [decide_eq_false _h] | simp only [(_h : (_ : Bool) = _)] | simp only [decide_eq_true _h] | skip)
          all_goals exact ⟨(R4, m + 1), ⟨by show 6 - (m + 1) < _; omega, hm6, h4l, h4t, h4v.trans (by rw [foldB_step hm6 hx, if_neg (fun h => hf2 h.2)])⟩, by omega, rfl⟩
      · repeat' (first | with_reducible refine inw ?_ | simp (maxSteps := 900000) (disch := omega) only [go_sem, Nat.reduceEqDiff, ↓reduceIte, reduceCtorEq, Nat.reduceAdd, Nat.reduceMul, Int.reduceToNat, List.reduceReplicate, Nat.reduceLeDiff, Nat.reduceLT, Int.reduceLT, Int.reduceLE, Int.reduceEq, z2_2, hn1, hn2, e41] | (with_reducible refine callI s63_ok (by simp) hS (cwp_sound _ _ _ _ ?_)); simp (maxSteps := 900000) (disch := omega) only [s63, go_sem, Nat.reduceEqDiff, ↓reduceIte, reduceCtorEq, Nat.reduceAdd, Nat.reduceMul, Int.reduceToNat, List.reduceReplicate, Nat.reduceLeDiff, Nat.reduceLT, Int.reduceLT, Int.reduceLE, Int.reduceEq, z2_2, hn1, hn2, e41] | with_reducible refine giv_intro fun _h => ?_ | with_reducible refine alt_intro ?_ fun _h => ?_ | with_reducible refine pickD_nil ?_ | (with_reducible refine brc (fun _h => ?_) fun _h => ?_) <;> first | (exfalso; omega) | simp only [decide_eq_false _h] | simp only [(_h : (_ : Bool) = _)] | simp only [decide_eq_true _h] | skip)
        all_goals exact ⟨(R4, m + 1), ⟨by show 6 - (m + 1) < _; omega, hm6, h4l, h4t, h4v.trans (by rw [foldB_step hm6 hx, if_neg (fun h => hf1 h.1)])⟩, by omega, rfl⟩
    · have : m = 6 := by omega
      subst this
      repeat' (first | with_reducible refine inw ?_ | simp (maxSteps := 900000) (disch := omega) only [go_sem, Nat.reduceEqDiff, ↓reduceIte, reduceCtorEq, Nat.reduceAdd, Nat.reduceMul, Int.reduceToNat, List.reduceReplicate, Nat.reduceLeDiff, Nat.reduceLT, Int.reduceLT, Int.reduceLE, Int.reduceEq] | with_reducible refine giv_intro fun _h => ?_ | with_reducible refine alt_intro ?_ fun _h => ?_ | with_reducible refine pickD_nil ?_ | (with_reducible refine brc (fun _h => ?_) fun _h => ?_) <;> first | (exfalso; omega) | simp only [decide_eq_false _h] | simp only [(_h : (_ : Bool) = _)] | simp only [decide_eq_true _h] | skip)
      refine ⟨(R4, k), ⟨Nat.lt_succ_self _, by show k ≤ b.length + 1; omega, h4l, fun p q hp hq hc => ?_⟩, rfl, rfl⟩
      rcases Nat.lt_or_ge i p with h | h
      · exact h4t p q hp hq (.inl h)
      · rcases Nat.lt_or_ge k q with h' | h'
        · exact h4t p q hp hq (.inr ⟨by omega, h'⟩)
        · obtain rfl : p = i := by omega
          obtain rfl : q = k := by omega
          rw [h4v, tab_eq hp hq]; rfl
  · have hk7 : i = a.length → ¬k = b.length := fun h1 h2 => hend ⟨h1, h2⟩
    have h3t := hN1 _ (-1) hRl hR2.2
    have h3v : _ = begB a b i k := (hN2 _ (-1) hRl).trans (by rw [begB, if_neg hend])
    by_cases hia : i = a.length
    · have hk8 := hk7 hia
      repeat' (first | with_reducible refine inw ?_ | simp (maxSteps := 900000) (disch := omega) only [go_sem, Nat.reduceEqDiff, ↓reduceIte, reduceCtorEq, Nat.reduceAdd, Nat.reduceMul, Int.reduceToNat, List.reduceReplicate, Nat.reduceLeDiff, Nat.reduceLT, Int.reduceLT, Int.reduceLE, Int.reduceEq, ei, ek, eR2, eP, put_fold1] | (with_reducible apply call (kinds_ok)); (focus simp (maxSteps := 900000) (disch := omega) only [go_sem, Nat.reduceEqDiff, ↓reduceIte, reduceCtorEq, Nat.reduceAdd, Nat.reduceMul, Int.reduceToNat, List.reduceReplicate, Nat.reduceLeDiff, Nat.reduceLT, Int.reduceLT, Int.reduceLE, Int.reduceEq, ei, ek, eR2, eP, put_fold1] <;> rfl) | with_reducible refine giv_intro fun _h => ?_ | with_reducible refine alt_intro ?_ fun _h => ?_ | with_reducible refine pickD_nil ?_ | (with_reducible refine brc (fun _h => ?_) fun _h => ?_) <;> first | (exfalso; omega) | simp only [decide_eq_false _h] | simp only [(_h : (_ : Bool) = _)] | simp only [decide_eq_true _h] | skip)
      have h3l := hP1
      generalize putAt R2 (i * 201 + k) (-1) = R3 at *
      (refine loopC hS [3, 4, 10, 11, 12, 13, 77, 78] (by simp only [go_sem, Nat.reduceEqDiff, ↓reduceIte, reduceCtorEq, Nat.reduceAdd, Nat.reduceMul, Int.reduceToNat, List.reduceReplicate, Nat.reduceLeDiff, Nat.reduceLT, Int.reduceLT, Int.reduceLE, Int.reduceEq]; try rfl) (fun (⟨R4, m⟩ : List Int × Nat) => [(79, intA m)]) (fun (⟨R4, m⟩ : List Int × Nat) => [rowO 36 [a], rowO 36 [b], rowO 3 [s], rowR R4]) (fun (⟨R4, m⟩ : List Int × Nat) => m ≤ 6 ∧ R4.length = 40401 ∧ (∀ p q, p ≤ a.length → q ≤ b.length → (i < p ∨ (p = i ∧ k + 1 ≤ q)) → nth R4 (201 * p + q) = tab a b s p q) ∧ nth R4 (201 * i + k) = foldB a b s (tab a b s) i k (beads.take m) (begB a b i k)) (fun (⟨R4, m⟩ : List Int × Nat) => 6 - m) ((R3, 0)) ?h07 ?hn7 ?rd7; case hn7 => (intro s; first | rfl | (rcases s with ⟨_, _⟩; rfl) | (rcases s with ⟨_, _, _⟩; rfl) | (rcases s with ⟨_, _, _, _⟩; rfl) | (rcases s with ⟨_, _, _, _, _⟩; rfl)))
      · simp (maxSteps := 900000) (disch := omega) only [go_sem, Nat.reduceEqDiff, ↓reduceIte, reduceCtorEq, Nat.reduceAdd, Nat.reduceMul, Int.reduceToNat, List.reduceReplicate, Nat.reduceLeDiff, Nat.reduceLT, Int.reduceLT, Int.reduceLE, Int.reduceEq]
        exact ⟨h3l, h3t, h3v⟩
      rintro ⟨R4, m⟩ ⟨hm, h4l, h4t, h4v⟩
      replace hm : m ≤ 6 := hm
      replace h4l : R4.length = 40401 := h4l
      by_cases hm6 : m < 6
      · obtain ⟨u, v, hx, hu, hv, huv⟩ := beads_at hm6
        have e41 := fun L => eR R4 L h4l
        have hn1 := congrArg Prod.fst hx
        have hn2 := congrArg Prod.snd hx
        dsimp only at hn1 hn2
        by_cases hf1 : i + u ≤ a.length
        · by_cases hf2 : k + v ≤ b.length
          · have t1 := totI_part ha i u hu
            have t2 := totI_part hb k v hv
            have c1 := total_ok ((a.drop i).take u) (by rw [List.length_take]; omega) (fun x hx => ha x (List.mem_of_mem_drop (List.mem_of_mem_take hx)))
            have c2 := total_ok ((b.drop k).take v) (by rw [List.length_take]; omega) (fun x hx => hb x (List.mem_of_mem_drop (List.mem_of_mem_take hx)))
            have hu2 : ((i : Int) + u).toNat = i + u := by omega
            have hv2 : ((k : Int) + v).toNat = k + v := by omega
            have hu3 : i + u - i = u := by omega
            have hv3 : k + v - k = v := by omega
            have hT : nth R4 ((i + u) * 201 + (k + v)) = tab a b s (i + u) (k + v) := by
              rw [← h4t (i + u) (k + v) hf1 hf2 (by omega)]; congr 1; omega
            have hTb := tab_le ha hb hs (by omega) (by omega) (i + u) (k + v)
            have h4w : nth R4 (i * 201 + k) = foldB a b s (tab a b s) i k (beads.take m) (begB a b i k) := by rw [← h4v, j2]
            have hst := foldB_step (a := a) (b := b) (s := s) (t := tab a b s) (i := i) (k := k) (r := begB a b i k) hm6 hx
            rw [if_pos ⟨hf1, hf2⟩, ← h4w, minB] at hst
            have hcl : costB a b s i k ((u : Int), (v : Int)) = if (u : Int) ≠ 1 ∨ (v : Int) ≠ 1 then max (totI ((a.drop i).take u) - totI ((b.drop k).take v)) (0 - (totI ((a.drop i).take u) - totI ((b.drop k).take v))) + s else max (totI ((a.drop i).take u) - totI ((b.drop k).take v)) (0 - (totI ((a.drop i).take u) - totI ((b.drop k).take v))) := by
              rw [costB]; simp only [absI, diffB, Int.toNat_natCast, Int.zero_sub]
            by_cases hq : (u : Int) ≠ 1 ∨ (v : Int) ≠ 1
            · rw [if_pos hq] at hcl
              repeat' (first | with_reducible refine inw ?_ | simp (maxSteps := 900000) (disch := omega) only [go_sem, Nat.reduceEqDiff, ↓reduceIte, reduceCtorEq, Nat.reduceAdd, Nat.reduceMul, Int.reduceToNat, List.reduceReplicate, Nat.reduceLeDiff, Nat.reduceLT, Int.reduceLT, Int.reduceLE, Int.reduceEq, z2_2, hn1, hn2, hu2, hv2, hu3, hv3, e41, hT, put_fold1] | (with_reducible refine callI s63_ok (by simp) hS (cwp_sound _ _ _ _ ?_)); simp (maxSteps := 900000) (disch := omega) only [s63, go_sem, Nat.reduceEqDiff, ↓reduceIte, reduceCtorEq, Nat.reduceAdd, Nat.reduceMul, Int.reduceToNat, List.reduceReplicate, Nat.reduceLeDiff, Nat.reduceLT, Int.reduceLT, Int.reduceLE, Int.reduceEq, z2_2, hn1, hn2, hu2, hv2, hu3, hv3, e41, hT, put_fold1] | (with_reducible apply call_D (c1)); (focus simp (maxSteps := 900000) (disch := omega) only [go_sem, Nat.reduceEqDiff, ↓reduceIte, reduceCtorEq, Nat.reduceAdd, Nat.reduceMul, Int.reduceToNat, List.reduceReplicate, Nat.reduceLeDiff, Nat.reduceLT, Int.reduceLT, Int.reduceLE, Int.reduceEq, z2_2, hn1, hn2, hu2, hv2, hu3, hv3, e41, hT, put_fold1] <;> rfl) | (with_reducible apply call_D (c2)); (focus simp (maxSteps := 900000) (disch := omega) only [go_sem, Nat.reduceEqDiff, ↓reduceIte, reduceCtorEq, Nat.reduceAdd, Nat.reduceMul, Int.reduceToNat, List.reduceReplicate, Nat.reduceLeDiff, Nat.reduceLT, Int.reduceLT, Int.reduceLE, Int.reduceEq, z2_2, hn1, hn2, hu2, hv2, hu3, hv3, e41, hT, put_fold1] <;> rfl) | with_reducible refine giv_intro fun _h => ?_ | with_reducible refine alt_intro ?_ fun _h => ?_ | with_reducible refine pickD_nil ?_ | (with_reducible refine brc (fun _h => ?_) fun _h => ?_) <;> first | (exfalso; omega) | simp only [decide_eq_false _h] | simp only [(_h : (_ : Bool) = _)] | simp only [decide_eq_true _h] | skip)
              all_goals first
                | exact ⟨(putAt R4 (i * 201 + k) _, m + 1), ⟨by show 6 - (m + 1) < _; omega, hm6, (putAt_len (by omega) _).trans h4l, hN1 R4 _ h4l h4t, (hN2 R4 _ h4l).trans (by rw [hst, if_pos (by omega), hcl])⟩, by show (m : Int) + 1 = ((m + 1 : Nat) : Int); omega, rfl⟩
                | exact ⟨(R4, m + 1), ⟨by show 6 - (m + 1) < _; omega, hm6, h4l, h4t, (by rw [hst, if_neg (by omega), j2])⟩, by show (m : Int) + 1 = ((m + 1 : Nat) : Int); omega, rfl⟩
            · rw [if_neg hq] at hcl
              repeat' (first | with_reducible refine inw ?_ | simp (maxSteps := 900000) (disch := omega) only [go_sem, Nat.reduceEqDiff, ↓reduceIte, reduceCtorEq, Nat.reduceAdd, Nat.reduceMul, Int.reduceToNat, List.reduceReplicate, Nat.reduceLeDiff, Nat.reduceLT, Int.reduceLT, Int.reduceLE, Int.reduceEq, z2_2, hn1, hn2, hu2, hv2, hu3, hv3, e41, hT, put_fold1] | (with_reducible refine callI s63_ok (by simp) hS (cwp_sound _ _ _ _ ?_)); simp (maxSteps := 900000) (disch := omega) only [s63, go_sem, Nat.reduceEqDiff, ↓reduceIte, reduceCtorEq, Nat.reduceAdd, Nat.reduceMul, Int.reduceToNat, List.reduceReplicate, Nat.reduceLeDiff, Nat.reduceLT, Int.reduceLT, Int.reduceLE, Int.reduceEq, z2_2, hn1, hn2, hu2, hv2, hu3, hv3, e41, hT, put_fold1] | (with_reducible apply call_D (c1)); (focus simp (maxSteps := 900000) (disch := omega) only [go_sem, Nat.reduceEqDiff, ↓reduceIte, reduceCtorEq, Nat.reduceAdd, Nat.reduceMul, Int.reduceToNat, List.reduceReplicate, Nat.reduceLeDiff, Nat.reduceLT, Int.reduceLT, Int.reduceLE, Int.reduceEq, z2_2, hn1, hn2, hu2, hv2, hu3, hv3, e41, hT, put_fold1] <;> rfl) | (with_reducible apply call_D (c2)); (focus simp (maxSteps := 900000) (disch := omega) only [go_sem, Nat.reduceEqDiff, ↓reduceIte, reduceCtorEq, Nat.reduceAdd, Nat.reduceMul, Int.reduceToNat, List.reduceReplicate, Nat.reduceLeDiff, Nat.reduceLT, Int.reduceLT, Int.reduceLE, Int.reduceEq, z2_2, hn1, hn2, hu2, hv2, hu3, hv3, e41, hT, put_fold1] <;> rfl) | with_reducible refine giv_intro fun _h => ?_ | with_reducible refine alt_intro ?_ fun _h => ?_ | with_reducible refine pickD_nil ?_ | (with_reducible refine brc (fun _h => ?_) fun _h => ?_) <;> first | (exfalso; omega) | simp only [decide_eq_false _h] | simp only [(_h : (_ : Bool) = _)] | simp only [decide_eq_true _h] | skip)
              all_goals first
                | exact ⟨(putAt R4 (i * 201 + k) _, m + 1), ⟨by show 6 - (m + 1) < _; omega, hm6, (putAt_len (by omega) _).trans h4l, hN1 R4 _ h4l h4t, (hN2 R4 _ h4l).trans (by rw [hst, if_pos (by omega), hcl])⟩, by show (m : Int) + 1 = ((m + 1 : Nat) : Int); omega, rfl⟩
                | exact ⟨(R4, m + 1), ⟨by show 6 - (m + 1) < _; omega, hm6, h4l, h4t, (by rw [hst, if_neg (by omega), j2])⟩, by show (m : Int) + 1 = ((m + 1 : Nat) : Int); omega, rfl⟩
          · repeat' (first | with_reducible refine inw ?_ | simp (maxSteps := 900000) (disch := omega) only [go_sem, Nat.reduceEqDiff, ↓reduceIte, reduceCtorEq, Nat.reduceAdd, Nat.reduceMul, Int.reduceToNat, List.reduceReplicate, Nat.reduceLeDiff, Nat.reduceLT, Int.reduceLT, Int.reduceLE, Int.reduceEq, z2_2, hn1, hn2, e41] | (with_reducible refine callI s63_ok (by simp) hS (cwp_sound _ _ _ _ ?_)); simp (maxSteps := 900000) (disch := omega) only [s63, go_sem, Nat.reduceEqDiff, ↓reduceIte, reduceCtorEq, Nat.reduceAdd, Nat.reduceMul, Int.reduceToNat, List.reduceReplicate, Nat.reduceLeDiff, Nat.reduceLT, Int.reduceLT, Int.reduceLE, Int.reduceEq, z2_2, hn1, hn2, e41] | with_reducible refine giv_intro fun _h => ?_ | with_reducible refine alt_intro ?_ fun _h => ?_ | with_reducible refine pickD_nil ?_ | (with_reducible refine brc (fun _h => ?_) fun _h => ?_) <;> first | (exfalso; omega) | simp only [decide_eq_false _h] | simp only [(_h : (_ : Bool) = _)] | simp only [decide_eq_true _h] | skip)
            all_goals exact ⟨(R4, m + 1), ⟨by show 6 - (m + 1) < _; omega, hm6, h4l, h4t, h4v.trans (by rw [foldB_step hm6 hx, if_neg (fun h => hf2 h.2)])⟩, by omega, rfl⟩
        · repeat' (first | with_reducible refine inw ?_ | simp (maxSteps := 900000) (disch := omega) only [go_sem, Nat.reduceEqDiff, ↓reduceIte, reduceCtorEq, Nat.reduceAdd, Nat.reduceMul, Int.reduceToNat, List.reduceReplicate, Nat.reduceLeDiff, Nat.reduceLT, Int.reduceLT, Int.reduceLE, Int.reduceEq, z2_2, hn1, hn2, e41] | (with_reducible refine callI s63_ok (by simp) hS (cwp_sound _ _ _ _ ?_)); simp (maxSteps := 900000) (disch := omega) only [s63, go_sem, Nat.reduceEqDiff, ↓reduceIte, reduceCtorEq, Nat.reduceAdd, Nat.reduceMul, Int.reduceToNat, List.reduceReplicate, Nat.reduceLeDiff, Nat.reduceLT, Int.reduceLT, Int.reduceLE, Int.reduceEq, z2_2, hn1, hn2, e41] | with_reducible refine giv_intro fun _h => ?_ | with_reducible refine alt_intro ?_ fun _h => ?_ | with_reducible refine pickD_nil ?_ | (with_reducible refine brc (fun _h => ?_) fun _h => ?_) <;> first | (exfalso; omega) | simp only [decide_eq_false _h] | simp only [(_h : (_ : Bool) = _)] | simp only [decide_eq_true _h] | skip)
          all_goals exact ⟨(R4, m + 1), ⟨by show 6 - (m + 1) < _; omega, hm6, h4l, h4t, h4v.trans (by rw [foldB_step hm6 hx, if_neg (fun h => hf1 h.1)])⟩, by omega, rfl⟩
      · have : m = 6 := by omega
        subst this
        repeat' (first | with_reducible refine inw ?_ | simp (maxSteps := 900000) (disch := omega) only [go_sem, Nat.reduceEqDiff, ↓reduceIte, reduceCtorEq, Nat.reduceAdd, Nat.reduceMul, Int.reduceToNat, List.reduceReplicate, Nat.reduceLeDiff, Nat.reduceLT, Int.reduceLT, Int.reduceLE, Int.reduceEq] | with_reducible refine giv_intro fun _h => ?_ | with_reducible refine alt_intro ?_ fun _h => ?_ | with_reducible refine pickD_nil ?_ | (with_reducible refine brc (fun _h => ?_) fun _h => ?_) <;> first | (exfalso; omega) | simp only [decide_eq_false _h] | simp only [(_h : (_ : Bool) = _)] | simp only [decide_eq_true _h] | skip)
        refine ⟨(R4, k), ⟨Nat.lt_succ_self _, by show k ≤ b.length + 1; omega, h4l, fun p q hp hq hc => ?_⟩, rfl, rfl⟩
        rcases Nat.lt_or_ge i p with h | h
        · exact h4t p q hp hq (.inl h)
        · rcases Nat.lt_or_ge k q with h' | h'
          · exact h4t p q hp hq (.inr ⟨by omega, h'⟩)
          · obtain rfl : p = i := by omega
            obtain rfl : q = k := by omega
            rw [h4v, tab_eq hp hq]; rfl
    · repeat' (first | with_reducible refine inw ?_ | simp (maxSteps := 900000) (disch := omega) only [go_sem, Nat.reduceEqDiff, ↓reduceIte, reduceCtorEq, Nat.reduceAdd, Nat.reduceMul, Int.reduceToNat, List.reduceReplicate, Nat.reduceLeDiff, Nat.reduceLT, Int.reduceLT, Int.reduceLE, Int.reduceEq, ei, ek, eR2, eP, put_fold1] | (with_reducible apply call (kinds_ok)); (focus simp (maxSteps := 900000) (disch := omega) only [go_sem, Nat.reduceEqDiff, ↓reduceIte, reduceCtorEq, Nat.reduceAdd, Nat.reduceMul, Int.reduceToNat, List.reduceReplicate, Nat.reduceLeDiff, Nat.reduceLT, Int.reduceLT, Int.reduceLE, Int.reduceEq, ei, ek, eR2, eP, put_fold1] <;> rfl) | with_reducible refine giv_intro fun _h => ?_ | with_reducible refine alt_intro ?_ fun _h => ?_ | with_reducible refine pickD_nil ?_ | (with_reducible refine brc (fun _h => ?_) fun _h => ?_) <;> first | (exfalso; omega) | simp only [decide_eq_false _h] | simp only [(_h : (_ : Bool) = _)] | simp only [decide_eq_true _h] | skip)
      have h3l := hP1
      generalize putAt R2 (i * 201 + k) (-1) = R3 at *
      (refine loopC hS [3, 4, 10, 11, 12, 13, 77, 78] (by simp only [go_sem, Nat.reduceEqDiff, ↓reduceIte, reduceCtorEq, Nat.reduceAdd, Nat.reduceMul, Int.reduceToNat, List.reduceReplicate, Nat.reduceLeDiff, Nat.reduceLT, Int.reduceLT, Int.reduceLE, Int.reduceEq]; try rfl) (fun (⟨R4, m⟩ : List Int × Nat) => [(79, intA m)]) (fun (⟨R4, m⟩ : List Int × Nat) => [rowO 36 [a], rowO 36 [b], rowO 3 [s], rowR R4]) (fun (⟨R4, m⟩ : List Int × Nat) => m ≤ 6 ∧ R4.length = 40401 ∧ (∀ p q, p ≤ a.length → q ≤ b.length → (i < p ∨ (p = i ∧ k + 1 ≤ q)) → nth R4 (201 * p + q) = tab a b s p q) ∧ nth R4 (201 * i + k) = foldB a b s (tab a b s) i k (beads.take m) (begB a b i k)) (fun (⟨R4, m⟩ : List Int × Nat) => 6 - m) ((R3, 0)) ?h08 ?hn8 ?rd8; case hn8 => (intro s; first | rfl | (rcases s with ⟨_, _⟩; rfl) | (rcases s with ⟨_, _, _⟩; rfl) | (rcases s with ⟨_, _, _, _⟩; rfl) | (rcases s with ⟨_, _, _, _, _⟩; rfl)))
      · simp (maxSteps := 900000) (disch := omega) only [go_sem, Nat.reduceEqDiff, ↓reduceIte, reduceCtorEq, Nat.reduceAdd, Nat.reduceMul, Int.reduceToNat, List.reduceReplicate, Nat.reduceLeDiff, Nat.reduceLT, Int.reduceLT, Int.reduceLE, Int.reduceEq]
        exact ⟨h3l, h3t, h3v⟩
      rintro ⟨R4, m⟩ ⟨hm, h4l, h4t, h4v⟩
      replace hm : m ≤ 6 := hm
      replace h4l : R4.length = 40401 := h4l
      by_cases hm6 : m < 6
      · obtain ⟨u, v, hx, hu, hv, huv⟩ := beads_at hm6
        have e41 := fun L => eR R4 L h4l
        have hn1 := congrArg Prod.fst hx
        have hn2 := congrArg Prod.snd hx
        dsimp only at hn1 hn2
        by_cases hf1 : i + u ≤ a.length
        · by_cases hf2 : k + v ≤ b.length
          · have t1 := totI_part ha i u hu
            have t2 := totI_part hb k v hv
            have c1 := total_ok ((a.drop i).take u) (by rw [List.length_take]; omega) (fun x hx => ha x (List.mem_of_mem_drop (List.mem_of_mem_take hx)))
            have c2 := total_ok ((b.drop k).take v) (by rw [List.length_take]; omega) (fun x hx => hb x (List.mem_of_mem_drop (List.mem_of_mem_take hx)))
            have hu2 : ((i : Int) + u).toNat = i + u := by omega
            have hv2 : ((k : Int) + v).toNat = k + v := by omega
            have hu3 : i + u - i = u := by omega
            have hv3 : k + v - k = v := by omega
            have hT : nth R4 ((i + u) * 201 + (k + v)) = tab a b s (i + u) (k + v) := by
              rw [← h4t (i + u) (k + v) hf1 hf2 (by omega)]; congr 1; omega
            have hTb := tab_le ha hb hs (by omega) (by omega) (i + u) (k + v)
            have h4w : nth R4 (i * 201 + k) = foldB a b s (tab a b s) i k (beads.take m) (begB a b i k) := by rw [← h4v, j2]
            have hst := foldB_step (a := a) (b := b) (s := s) (t := tab a b s) (i := i) (k := k) (r := begB a b i k) hm6 hx
            rw [if_pos ⟨hf1, hf2⟩, ← h4w, minB] at hst
            have hcl : costB a b s i k ((u : Int), (v : Int)) = if (u : Int) ≠ 1 ∨ (v : Int) ≠ 1 then max (totI ((a.drop i).take u) - totI ((b.drop k).take v)) (0 - (totI ((a.drop i).take u) - totI ((b.drop k).take v))) + s else max (totI ((a.drop i).take u) - totI ((b.drop k).take v)) (0 - (totI ((a.drop i).take u) - totI ((b.drop k).take v))) := by
              rw [costB]; simp only [absI, diffB, Int.toNat_natCast, Int.zero_sub]
            by_cases hq : (u : Int) ≠ 1 ∨ (v : Int) ≠ 1
            · rw [if_pos hq] at hcl
              repeat' (first | with_reducible refine inw ?_ | simp (maxSteps := 900000) (disch := omega) only [go_sem, Nat.reduceEqDiff, ↓reduceIte, reduceCtorEq, Nat.reduceAdd, Nat.reduceMul, Int.reduceToNat, List.reduceReplicate, Nat.reduceLeDiff, Nat.reduceLT, Int.reduceLT, Int.reduceLE, Int.reduceEq, z2_2, hn1, hn2, hu2, hv2, hu3, hv3, e41, hT, put_fold1] | (with_reducible refine callI s63_ok (by simp) hS (cwp_sound _ _ _ _ ?_)); simp (maxSteps := 900000) (disch := omega) only [s63, go_sem, Nat.reduceEqDiff, ↓reduceIte, reduceCtorEq, Nat.reduceAdd, Nat.reduceMul, Int.reduceToNat, List.reduceReplicate, Nat.reduceLeDiff, Nat.reduceLT, Int.reduceLT, Int.reduceLE, Int.reduceEq, z2_2, hn1, hn2, hu2, hv2, hu3, hv3, e41, hT, put_fold1] | (with_reducible apply call_D (c1)); (focus simp (maxSteps := 900000) (disch := omega) only [go_sem, Nat.reduceEqDiff, ↓reduceIte, reduceCtorEq, Nat.reduceAdd, Nat.reduceMul, Int.reduceToNat, List.reduceReplicate, Nat.reduceLeDiff, Nat.reduceLT, Int.reduceLT, Int.reduceLE, Int.reduceEq, z2_2, hn1, hn2, hu2, hv2, hu3, hv3, e41, hT, put_fold1] <;> rfl) | (with_reducible apply call_D (c2)); (focus simp (maxSteps := 900000) (disch := omega) only [go_sem, Nat.reduceEqDiff, ↓reduceIte, reduceCtorEq, Nat.reduceAdd, Nat.reduceMul, Int.reduceToNat, List.reduceReplicate, Nat.reduceLeDiff, Nat.reduceLT, Int.reduceLT, Int.reduceLE, Int.reduceEq, z2_2, hn1, hn2, hu2, hv2, hu3, hv3, e41, hT, put_fold1] <;> rfl) | with_reducible refine giv_intro fun _h => ?_ | with_reducible refine alt_intro ?_ fun _h => ?_ | with_reducible refine pickD_nil ?_ | (with_reducible refine brc (fun _h => ?_) fun _h => ?_) <;> first | (exfalso; omega) | simp only [decide_eq_false _h] | simp only [(_h : (_ : Bool) = _)] | simp only [decide_eq_true _h] | skip)
              all_goals first
                | exact ⟨(putAt R4 (i * 201 + k) _, m + 1), ⟨by show 6 - (m + 1) < _; omega, hm6, (putAt_len (by omega) _).trans h4l, hN1 R4 _ h4l h4t, (hN2 R4 _ h4l).trans (by rw [hst, if_pos (by omega), hcl])⟩, by show (m : Int) + 1 = ((m + 1 : Nat) : Int); omega, rfl⟩
                | exact ⟨(R4, m + 1), ⟨by show 6 - (m + 1) < _; omega, hm6, h4l, h4t, (by rw [hst, if_neg (by omega), j2])⟩, by show (m : Int) + 1 = ((m + 1 : Nat) : Int); omega, rfl⟩
            · rw [if_neg hq] at hcl
              repeat' (first | with_reducible refine inw ?_ | simp (maxSteps := 900000) (disch := omega) only [go_sem, Nat.reduceEqDiff, ↓reduceIte, reduceCtorEq, Nat.reduceAdd, Nat.reduceMul, Int.reduceToNat, List.reduceReplicate, Nat.reduceLeDiff, Nat.reduceLT, Int.reduceLT, Int.reduceLE, Int.reduceEq, z2_2, hn1, hn2, hu2, hv2, hu3, hv3, e41, hT, put_fold1] | (with_reducible refine callI s63_ok (by simp) hS (cwp_sound _ _ _ _ ?_)); simp (maxSteps := 900000) (disch := omega) only [s63, go_sem, Nat.reduceEqDiff, ↓reduceIte, reduceCtorEq, Nat.reduceAdd, Nat.reduceMul, Int.reduceToNat, List.reduceReplicate, Nat.reduceLeDiff, Nat.reduceLT, Int.reduceLT, Int.reduceLE, Int.reduceEq, z2_2, hn1, hn2, hu2, hv2, hu3, hv3, e41, hT, put_fold1] | (with_reducible apply call_D (c1)); (focus simp (maxSteps := 900000) (disch := omega) only [go_sem, Nat.reduceEqDiff, ↓reduceIte, reduceCtorEq, Nat.reduceAdd, Nat.reduceMul, Int.reduceToNat, List.reduceReplicate, Nat.reduceLeDiff, Nat.reduceLT, Int.reduceLT, Int.reduceLE, Int.reduceEq, z2_2, hn1, hn2, hu2, hv2, hu3, hv3, e41, hT, put_fold1] <;> rfl) | (with_reducible apply call_D (c2)); (focus simp (maxSteps := 900000) (disch := omega) only [go_sem, Nat.reduceEqDiff, ↓reduceIte, reduceCtorEq, Nat.reduceAdd, Nat.reduceMul, Int.reduceToNat, List.reduceReplicate, Nat.reduceLeDiff, Nat.reduceLT, Int.reduceLT, Int.reduceLE, Int.reduceEq, z2_2, hn1, hn2, hu2, hv2, hu3, hv3, e41, hT, put_fold1] <;> rfl) | with_reducible refine giv_intro fun _h => ?_ | with_reducible refine alt_intro ?_ fun _h => ?_ | with_reducible refine pickD_nil ?_ | (with_reducible refine brc (fun _h => ?_) fun _h => ?_) <;> first | (exfalso; omega) | simp only [decide_eq_false _h] | simp only [(_h : (_ : Bool) = _)] | simp only [decide_eq_true _h] | skip)
              all_goals first
                | exact ⟨(putAt R4 (i * 201 + k) _, m + 1), ⟨by show 6 - (m + 1) < _; omega, hm6, (putAt_len (by omega) _).trans h4l, hN1 R4 _ h4l h4t, (hN2 R4 _ h4l).trans (by rw [hst, if_pos (by omega), hcl])⟩, by show (m : Int) + 1 = ((m + 1 : Nat) : Int); omega, rfl⟩
                | exact ⟨(R4, m + 1), ⟨by show 6 - (m + 1) < _; omega, hm6, h4l, h4t, (by rw [hst, if_neg (by omega), j2])⟩, by show (m : Int) + 1 = ((m + 1 : Nat) : Int); omega, rfl⟩
          · repeat' (first | with_reducible refine inw ?_ | simp (maxSteps := 900000) (disch := omega) only [go_sem, Nat.reduceEqDiff, ↓reduceIte, reduceCtorEq, Nat.reduceAdd, Nat.reduceMul, Int.reduceToNat, List.reduceReplicate, Nat.reduceLeDiff, Nat.reduceLT, Int.reduceLT, Int.reduceLE, Int.reduceEq, z2_2, hn1, hn2, e41] | (with_reducible refine callI s63_ok (by simp) hS (cwp_sound _ _ _ _ ?_)); simp (maxSteps := 900000) (disch := omega) only [s63, go_sem, Nat.reduceEqDiff, ↓reduceIte, reduceCtorEq, Nat.reduceAdd, Nat.reduceMul, Int.reduceToNat, List.reduceReplicate, Nat.reduceLeDiff, Nat.reduceLT, Int.reduceLT, Int.reduceLE, Int.reduceEq, z2_2, hn1, hn2, e41] | with_reducible refine giv_intro fun _h => ?_ | with_reducible refine alt_intro ?_ fun _h => ?_ | with_reducible refine pickD_nil ?_ | (with_reducible refine brc (fun _h => ?_) fun _h => ?_) <;> first | (exfalso; omega) | simp only [decide_eq_false _h] | simp only [(_h : (_ : Bool) = _)] | simp only [decide_eq_true _h] | skip)
            all_goals exact ⟨(R4, m + 1), ⟨by show 6 - (m + 1) < _; omega, hm6, h4l, h4t, h4v.trans (by rw [foldB_step hm6 hx, if_neg (fun h => hf2 h.2)])⟩, by omega, rfl⟩
        · repeat' (first | with_reducible refine inw ?_ | simp (maxSteps := 900000) (disch := omega) only [go_sem, Nat.reduceEqDiff, ↓reduceIte, reduceCtorEq, Nat.reduceAdd, Nat.reduceMul, Int.reduceToNat, List.reduceReplicate, Nat.reduceLeDiff, Nat.reduceLT, Int.reduceLT, Int.reduceLE, Int.reduceEq, z2_2, hn1, hn2, e41] | (with_reducible refine callI s63_ok (by simp) hS (cwp_sound _ _ _ _ ?_)); simp (maxSteps := 900000) (disch := omega) only [s63, go_sem, Nat.reduceEqDiff, ↓reduceIte, reduceCtorEq, Nat.reduceAdd, Nat.reduceMul, Int.reduceToNat, List.reduceReplicate, Nat.reduceLeDiff, Nat.reduceLT, Int.reduceLT, Int.reduceLE, Int.reduceEq, z2_2, hn1, hn2, e41] | with_reducible refine giv_intro fun _h => ?_ | with_reducible refine alt_intro ?_ fun _h => ?_ | with_reducible refine pickD_nil ?_ | (with_reducible refine brc (fun _h => ?_) fun _h => ?_) <;> first | (exfalso; omega) | simp only [decide_eq_false _h] | simp only [(_h : (_ : Bool) = _)] | simp only [decide_eq_true _h] | skip)
          all_goals exact ⟨(R4, m + 1), ⟨by show 6 - (m + 1) < _; omega, hm6, h4l, h4t, h4v.trans (by rw [foldB_step hm6 hx, if_neg (fun h => hf1 h.1)])⟩, by omega, rfl⟩
      · have : m = 6 := by omega
        subst this
        repeat' (first | with_reducible refine inw ?_ | simp (maxSteps := 900000) (disch := omega) only [go_sem, Nat.reduceEqDiff, ↓reduceIte, reduceCtorEq, Nat.reduceAdd, Nat.reduceMul, Int.reduceToNat, List.reduceReplicate, Nat.reduceLeDiff, Nat.reduceLT, Int.reduceLT, Int.reduceLE, Int.reduceEq] | with_reducible refine giv_intro fun _h => ?_ | with_reducible refine alt_intro ?_ fun _h => ?_ | with_reducible refine pickD_nil ?_ | (with_reducible refine brc (fun _h => ?_) fun _h => ?_) <;> first | (exfalso; omega) | simp only [decide_eq_false _h] | simp only [(_h : (_ : Bool) = _)] | simp only [decide_eq_true _h] | skip)
        refine ⟨(R4, k), ⟨Nat.lt_succ_self _, by show k ≤ b.length + 1; omega, h4l, fun p q hp hq hc => ?_⟩, rfl, rfl⟩
        rcases Nat.lt_or_ge i p with h | h
        · exact h4t p q hp hq (.inl h)
        · rcases Nat.lt_or_ge k q with h' | h'
          · exact h4t p q hp hq (.inr ⟨by omega, h'⟩)
          · obtain rfl : p = i := by omega
            obtain rfl : q = k := by omega
            rw [h4v, tab_eq hp hq]; rfl
end Go.Proofs.Ytedbjmonfbpefaa.Ev

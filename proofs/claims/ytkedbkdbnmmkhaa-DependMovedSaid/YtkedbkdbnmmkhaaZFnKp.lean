/- Flat frames, trees, and the moves that hang their nodes: the law DependMoves. -/
import Derived.Test.YtkedbkdbnmmkhaaZFnKn
import Derived.Test.YtkedbkdbnmmkhaaZFnKm
import Derived.Test.YtkedbkdbnmmkhaaZEvX
set_option linter.unusedVariables false
set_option linter.unusedSimpArgs false
namespace Go.Proofs.Ytkedbkdbnmmkhaa.Ev
open Go Go.Proofs

/-- A hanging from a to b crosses the head h of node k. -/
def badA (a b k h : Int) : Prop := min a b < k ∧ k < max a b ∧ (h = -1 ∨ (0 ≤ h ∧ (h < min a b ∨ max a b < h)))
def badC (a b k h : Int) : Prop := min a b < h ∧ h < max a b ∧ (k < min a b ∨ max a b < k)
instance (a b k h : Int) : Decidable (badA a b k h) := by unfold badA; infer_instance
instance (a b k h : Int) : Decidable (badC a b k h) := by unfold badC; infer_instance
def flatA (l : List Hung) (i : Nat) : Prop := 0 ≤ (nth l i).2.1 → ∀ k, k < l.length → ¬badA i (nth l i).2.1 k (nth l k).2.1 ∧ ¬badC i (nth l i).2.1 k (nth l k).2.1
instance (l : List Hung) (i : Nat) : Decidable (flatA l i) := by unfold flatA; infer_instance
def flatB (l : List Hung) : Bool := decide (∀ i, i < l.length → flatA l i)
/-- ablaut/depend.flat: 1 parameters, 0 captured -/
def s62 : SC := .seq (.reg [o1 2 (.mv (cB false))])
  (.seq (.seq (.reg [o1 11 (.mv (.t 0)),
     o1 12 (.lenL (.t 11)),
     o1 13 (.mv (cI 0))])
    (.block 0 (.loop (.seq (.reg [o1 14 (.bin .lss (.t 13) (.t 12))])
       (.seq (.cond (.t 14) (.skip) (.exit 0))
        (.seq (.block 1 (.seq (.reg [o1 15 (.mv (.t 13)),
            o1 16 (.iaddr 3 (.t 11) (.t 13)),
            o1 17 (.load (some 3) (.t 16)),
            o1 4 (.alloc 34 3 [(.slice none 0 0), (.int .i64 0), (.string ⟨#[]⟩)]),
            o1 3 (.mv (.t 15)),
            o0 (.store 3 (.t 4) (.t 17))])
           (.seq (.seq (.reg [o1 18 (.faddr 1 (.t 4)),
              o1 19 (.load none (.t 18)),
              o1 20 (.bin .lss (.t 19) (cI 0))])
             (.cond (.t 20) (.exit 1) (.skip)))
            (.seq (.regD [o1 21 (.mv (.t 3)),
              o1 22 (.faddr 1 (.t 4)),
              o1 23 (.load none (.t 22)),
              o1 24 (.min (.t 21) (.t 23)),
              o1 25 (.mv (.t 3)),
              o1 26 (.faddr 1 (.t 4)),
              o1 27 (.load none (.t 26)),
              o1 28 (.max (.t 25) (.t 27)),
              o1 5 (.mv (.t 24)),
              o1 6 (.mv (.t 28))])
             (.seq (.seq (.reg [o1 29 (.mv (.t 0)),
                o1 30 (.lenL (.t 29)),
                o1 31 (.mv (cI 0))])
               (.block 2 (.loop (.seq (.reg [o1 32 (.bin .lss (.t 31) (.t 30))])
                  (.seq (.cond (.t 32) (.skip) (.exit 2))
                   (.seq (.block 3 (.seq (.reg [o1 33 (.mv (.t 31)),
                       o1 34 (.iaddr 3 (.t 29) (.t 31)),
                       o1 35 (.load (some 3) (.t 34)),
                       o1 8 (.alloc 34 3 [(.slice none 0 0), (.int .i64 0), (.string ⟨#[]⟩)]),
                       o1 7 (.mv (.t 33)),
                       o0 (.store 3 (.t 8) (.t 35))])
                      (.seq (.seq (.reg [o1 36 (.mv (.t 7)),
                         o1 37 (.mv (.t 5)),
                         o1 38 (.bin .leq (.t 36) (.t 37)),
                         o1 39 (.mv (.t 38)),
                         oF 40 (.mv (.t 7)) 39,
                         oF 41 (.mv (.t 6)) 39,
                         oF 42 (.bin .geq (.t 40) (.t 41)) 39,
                         o1 43 (.pick (.t 39) (cB true) (.t 42))])
                        (.cond (.t 43) (.exit 3) (.skip)))
                       (.seq (.reg [o1 44 (.faddr 1 (.t 8)),
                         o1 45 (.load none (.t 44)),
                         o1 46 (.bin .eql (.t 45) (cI (-1))),
                         o1 47 (.mv (.t 46)),
                         oF 48 (.faddr 1 (.t 8)) 47,
                         oF 49 (.load none (.t 48)) 47,
                         oF 50 (.bin .geq (.t 49) (cI 0)) 47,
                         oF 51 (.mv (.t 50)) 47,
                         oT 52 (.faddr 1 (.t 8)) 51,
                         oT 53 (.load none (.t 52)) 51,
                         oT 54 (.mv (.t 5)) 51,
                         oT 55 (.bin .lss (.t 53) (.t 54)) 51,
                         oT 56 (.mv (.t 55)) 51,
                         oF 57 (.faddr 1 (.t 8)) 56,
                         oF 58 (.load none (.t 57)) 56,
                         oF 59 (.mv (.t 6)) 56,
                         oF 60 (.bin .gtr (.t 58) (.t 59)) 56,
                         oT 61 (.pick (.t 56) (cB true) (.t 60)) 51,
                         oF 62 (.pick (.t 51) (.t 61) (cB false)) 47,
                         o1 63 (.pick (.t 47) (cB true) (.t 62))])
                        (.cond (.t 63) (.seq (.reg [o1 2 (.mv (cB false))])
                          (.ret)) (.skip))))))
                    (.reg [o1 64 (.bin .add (.t 31) (cI 1)),
                     o1 31 (.mv (.t 64))])))))))
              (.seq (.reg [o1 65 (.mv (.t 0)),
                o1 66 (.lenL (.t 65)),
                o1 67 (.mv (cI 0))])
               (.block 4 (.loop (.seq (.reg [o1 68 (.bin .lss (.t 67) (.t 66))])
                  (.seq (.cond (.t 68) (.skip) (.exit 4))
                   (.seq (.block 5 (.seq (.reg [o1 69 (.mv (.t 67)),
                       o1 70 (.iaddr 3 (.t 65) (.t 67)),
                       o1 71 (.load (some 3) (.t 70)),
                       o1 10 (.alloc 34 3 [(.slice none 0 0), (.int .i64 0), (.string ⟨#[]⟩)]),
                       o1 9 (.mv (.t 69)),
                       o0 (.store 3 (.t 10) (.t 71))])
                      (.seq (.reg [o1 72 (.faddr 1 (.t 10)),
                        o1 73 (.load none (.t 72)),
                        o1 74 (.mv (.t 5)),
                        o1 75 (.bin .gtr (.t 73) (.t 74)),
                        o1 76 (.mv (.t 75)),
                        oT 77 (.faddr 1 (.t 10)) 76,
                        oT 78 (.load none (.t 77)) 76,
                        oT 79 (.mv (.t 6)) 76,
                        oT 80 (.bin .lss (.t 78) (.t 79)) 76,
                        o1 81 (.pick (.t 76) (.t 80) (cB false)),
                        o1 82 (.mv (.t 81)),
                        oT 83 (.mv (.t 9)) 82,
                        oT 84 (.mv (.t 5)) 82,
                        oT 85 (.bin .lss (.t 83) (.t 84)) 82,
                        oT 86 (.mv (.t 85)) 82,
                        oF 87 (.mv (.t 9)) 86,
                        oF 88 (.mv (.t 6)) 86,
                        oF 89 (.bin .gtr (.t 87) (.t 88)) 86,
                        oT 90 (.pick (.t 86) (cB true) (.t 89)) 82,
                        o1 91 (.pick (.t 82) (.t 90) (cB false))])
                       (.cond (.t 91) (.seq (.reg [o1 2 (.mv (cB false))])
                         (.ret)) (.skip)))))
                    (.reg [o1 92 (.bin .add (.t 67) (cI 1)),
                     o1 67 (.mv (.t 92))]))))))))))))
         (.reg [o1 93 (.bin .add (.t 13) (cI 1)),
          o1 13 (.mv (.t 93))])))))))
   (.seq (.reg [o1 2 (.mv (cB true))])
    (.ret)))
theorem s62_ok : lookF Try.prog 62 = some (s62, 94, [.tmp 2]) := by kernel_rfl
set_option maxHeartbeats 1000000 in
theorem flat_ok (l : List Hung) (hl : l.length ≤ 200) (hd : Hds l) : Fn P 62 [sl l] (boolA (flatB l)) := by
  (refine fn_look s62_ok (by simp) (by intro k; simp only [go_sem, Nat.reduceEqDiff, ↓reduceIte, reduceCtorEq, Nat.reduceAdd, Nat.reduceMul, Int.reduceToNat, List.reduceReplicate, Nat.reduceLeDiff, Nat.reduceLT, Int.reduceLT, Int.reduceLE, Int.reduceEq]) fun S hS => cwp_sound _ _ _ _ ?_; simp (disch := omega) only [s62, go_sem, Nat.reduceEqDiff, ↓reduceIte, reduceCtorEq, Nat.reduceAdd, Nat.reduceMul, Int.reduceToNat, List.reduceReplicate, Nat.reduceLeDiff, Nat.reduceLT, Int.reduceLT, Int.reduceLE, Int.reduceEq])
  repeat' (first | with_reducible refine inw ?_ | simp (disch := omega) only [go_sem, Nat.reduceEqDiff, ↓reduceIte, reduceCtorEq, Nat.reduceAdd, Nat.reduceMul, Int.reduceToNat, List.reduceReplicate, Nat.reduceLeDiff, Nat.reduceLT, Int.reduceLT, Int.reduceLE, Int.reduceEq] | with_reducible refine giv_intro fun _h => ?_ | with_reducible refine alt_intro ?_ fun _h => ?_ | with_reducible refine pickD_nil ?_ | (with_reducible refine brc (fun _h => ?_) fun _h => ?_) <;> first | (exfalso; omega) | simp only [decide_eq_false _h] | simp only [(_h : (_ : Bool) = _)] | simp only [decide_eq_true _h] | skip)
  (refine loopC hS [0, 11, 12] (by simp only [go_sem, Nat.reduceEqDiff, ↓reduceIte, reduceCtorEq, Nat.reduceAdd, Nat.reduceMul, Int.reduceToNat, List.reduceReplicate, Nat.reduceLeDiff, Nat.reduceLT, Int.reduceLT, Int.reduceLE, Int.reduceEq]; try rfl) (fun (i : Nat) => [(13, intA i)]) (fun (i : Nat) => []) (fun (i : Nat) => i ≤ l.length ∧ ∀ j, j < i → flatA l j) (fun (i : Nat) => l.length - i) (0) ?h01 ?hn1 ?rd1; case hn1 => (intro s; first | rfl | (rcases s with ⟨_, _⟩; rfl) | (rcases s with ⟨_, _, _⟩; rfl) | (rcases s with ⟨_, _, _, _⟩; rfl) | (rcases s with ⟨_, _, _, _, _⟩; rfl)))
  · simp (disch := omega) only [go_sem, Nat.reduceEqDiff, ↓reduceIte, reduceCtorEq, Nat.reduceAdd, Nat.reduceMul, Int.reduceToNat, List.reduceReplicate, Nat.reduceLeDiff, Nat.reduceLT, Int.reduceLT, Int.reduceLE, Int.reduceEq]; simp
  rintro i ⟨hi, hI⟩
  replace hi : i ≤ l.length := hi
  replace hI : ∀ j, j < i → flatA l j := hI
  by_cases hil : i < l.length
  · have hr := hd i hil
    by_cases hh : (nth l i).2.1 < 0
    · repeat' (first | with_reducible refine inw ?_ | simp (disch := omega) only [go_sem, Nat.reduceEqDiff, ↓reduceIte, reduceCtorEq, Nat.reduceAdd, Nat.reduceMul, Int.reduceToNat, List.reduceReplicate, Nat.reduceLeDiff, Nat.reduceLT, Int.reduceLT, Int.reduceLE, Int.reduceEq] | with_reducible refine giv_intro fun _h => ?_ | with_reducible refine alt_intro ?_ fun _h => ?_ | with_reducible refine pickD_nil ?_ | (with_reducible refine brc (fun _h => ?_) fun _h => ?_) <;> first | (exfalso; omega) | simp only [decide_eq_false _h] | simp only [(_h : (_ : Bool) = _)] | simp only [decide_eq_true _h] | skip)
      exact ⟨i + 1, ⟨by omega, by omega, allN_step hI (fun h => by omega)⟩, by omega⟩
    · repeat' (first | with_reducible refine inw ?_ | simp (disch := omega) only [go_sem, Nat.reduceEqDiff, ↓reduceIte, reduceCtorEq, Nat.reduceAdd, Nat.reduceMul, Int.reduceToNat, List.reduceReplicate, Nat.reduceLeDiff, Nat.reduceLT, Int.reduceLT, Int.reduceLE, Int.reduceEq] | with_reducible refine giv_intro fun _h => ?_ | with_reducible refine alt_intro ?_ fun _h => ?_ | with_reducible refine pickD_nil ?_ | (with_reducible refine brc (fun _h => ?_) fun _h => ?_) <;> first | (exfalso; omega) | simp only [decide_eq_false _h] | simp only [(_h : (_ : Bool) = _)] | simp only [decide_eq_true _h] | skip)
      (refine loopC hS [0, 5, 6, 11, 12, 13, 29, 30] (by simp only [go_sem, Nat.reduceEqDiff, ↓reduceIte, reduceCtorEq, Nat.reduceAdd, Nat.reduceMul, Int.reduceToNat, List.reduceReplicate, Nat.reduceLeDiff, Nat.reduceLT, Int.reduceLT, Int.reduceLE, Int.reduceEq]; try rfl) (fun (k : Nat) => [(31, intA k)]) (fun (k : Nat) => [none]) (fun (k : Nat) => k ≤ l.length ∧ ∀ j, j < k → ¬badA i (nth l i).2.1 j (nth l j).2.1) (fun (k : Nat) => l.length - k) (0) ?h02 ?hn2 ?rd2; case hn2 => (intro s; first | rfl | (rcases s with ⟨_, _⟩; rfl) | (rcases s with ⟨_, _, _⟩; rfl) | (rcases s with ⟨_, _, _, _⟩; rfl) | (rcases s with ⟨_, _, _, _, _⟩; rfl)))
      · simp (disch := omega) only [go_sem, Nat.reduceEqDiff, ↓reduceIte, reduceCtorEq, Nat.reduceAdd, Nat.reduceMul, Int.reduceToNat, List.reduceReplicate, Nat.reduceLeDiff, Nat.reduceLT, Int.reduceLT, Int.reduceLE, Int.reduceEq]; simp
      rintro k ⟨hk, hK⟩
      replace hk : k ≤ l.length := hk
      replace hK : ∀ j, j < k → ¬badA i (nth l i).2.1 j (nth l j).2.1 := hK
      by_cases hkl : k < l.length
      · repeat' (first | with_reducible refine inw ?_ | simp (disch := omega) only [go_sem, Nat.reduceEqDiff, ↓reduceIte, reduceCtorEq, Nat.reduceAdd, Nat.reduceMul, Int.reduceToNat, List.reduceReplicate, Nat.reduceLeDiff, Nat.reduceLT, Int.reduceLT, Int.reduceLE, Int.reduceEq] | with_reducible refine giv_intro fun _h => ?_ | with_reducible refine alt_intro ?_ fun _h => ?_ | with_reducible refine pickD_nil ?_ | (with_reducible refine brc (fun _h => ?_) fun _h => ?_) <;> first | (exfalso; omega) | simp only [decide_eq_false _h] | simp only [(_h : (_ : Bool) = _)] | simp only [decide_eq_true _h] | skip)
        all_goals first
          | exact ⟨k + 1, ⟨by omega, by omega, allN_step hK (by rw [badA]; omega)⟩, by omega⟩
          | exact (allN_no hil (fun q => (q (by omega) k hkl).1 (by rw [badA]; omega))).symm
      · have hK' : ∀ j, j < l.length → ¬badA i (nth l i).2.1 j (nth l j).2.1 := fun j hj => hK j (by omega)
        repeat' (first | with_reducible refine inw ?_ | simp (disch := omega) only [go_sem, Nat.reduceEqDiff, ↓reduceIte, reduceCtorEq, Nat.reduceAdd, Nat.reduceMul, Int.reduceToNat, List.reduceReplicate, Nat.reduceLeDiff, Nat.reduceLT, Int.reduceLT, Int.reduceLE, Int.reduceEq] | with_reducible refine giv_intro fun _h => ?_ | with_reducible refine alt_intro ?_ fun _h => ?_ | with_reducible refine pickD_nil ?_ | (with_reducible refine brc (fun _h => ?_) fun _h => ?_) <;> first | (exfalso; omega) | simp only [decide_eq_false _h] | simp only [(_h : (_ : Bool) = _)] | simp only [decide_eq_true _h] | skip)
        (refine loopC hS [0, 5, 6, 11, 12, 13, 65, 66] (by simp only [go_sem, Nat.reduceEqDiff, ↓reduceIte, reduceCtorEq, Nat.reduceAdd, Nat.reduceMul, Int.reduceToNat, List.reduceReplicate, Nat.reduceLeDiff, Nat.reduceLT, Int.reduceLT, Int.reduceLE, Int.reduceEq]; try rfl) (fun (k : Nat) => [(67, intA k)]) (fun (k : Nat) => [none]) (fun (k : Nat) => k ≤ l.length ∧ ∀ j, j < k → ¬badC i (nth l i).2.1 j (nth l j).2.1) (fun (k : Nat) => l.length - k) (0) ?h03 ?hn3 ?rd3; case hn3 => (intro s; first | rfl | (rcases s with ⟨_, _⟩; rfl) | (rcases s with ⟨_, _, _⟩; rfl) | (rcases s with ⟨_, _, _, _⟩; rfl) | (rcases s with ⟨_, _, _, _, _⟩; rfl)))
        · simp (disch := omega) only [go_sem, Nat.reduceEqDiff, ↓reduceIte, reduceCtorEq, Nat.reduceAdd, Nat.reduceMul, Int.reduceToNat, List.reduceReplicate, Nat.reduceLeDiff, Nat.reduceLT, Int.reduceLT, Int.reduceLE, Int.reduceEq]; simp
        rintro k ⟨hk, hK⟩
        replace hk : k ≤ l.length := hk
        replace hK : ∀ j, j < k → ¬badC i (nth l i).2.1 j (nth l j).2.1 := hK
        by_cases hkl : k < l.length
        · repeat' (first | with_reducible refine inw ?_ | simp (disch := omega) only [go_sem, Nat.reduceEqDiff, ↓reduceIte, reduceCtorEq, Nat.reduceAdd, Nat.reduceMul, Int.reduceToNat, List.reduceReplicate, Nat.reduceLeDiff, Nat.reduceLT, Int.reduceLT, Int.reduceLE, Int.reduceEq] | with_reducible refine giv_intro fun _h => ?_ | with_reducible refine alt_intro ?_ fun _h => ?_ | with_reducible refine pickD_nil ?_ | (with_reducible refine brc (fun _h => ?_) fun _h => ?_) <;> first | (exfalso; omega) | simp only [decide_eq_false _h] | simp only [(_h : (_ : Bool) = _)] | simp only [decide_eq_true _h] | skip)
          all_goals first
            | exact ⟨k + 1, ⟨by omega, by omega, allN_step hK (by rw [badC]; omega)⟩, by omega⟩
            | exact (allN_no hil (fun q => (q (by omega) k hkl).2 (by rw [badC]; omega))).symm
        · repeat' (first | with_reducible refine inw ?_ | simp (disch := omega) only [go_sem, Nat.reduceEqDiff, ↓reduceIte, reduceCtorEq, Nat.reduceAdd, Nat.reduceMul, Int.reduceToNat, List.reduceReplicate, Nat.reduceLeDiff, Nat.reduceLT, Int.reduceLT, Int.reduceLE, Int.reduceEq] | with_reducible refine giv_intro fun _h => ?_ | with_reducible refine alt_intro ?_ fun _h => ?_ | with_reducible refine pickD_nil ?_ | (with_reducible refine brc (fun _h => ?_) fun _h => ?_) <;> first | (exfalso; omega) | simp only [decide_eq_false _h] | simp only [(_h : (_ : Bool) = _)] | simp only [decide_eq_true _h] | skip)
          exact ⟨i + 1, ⟨by omega, by omega, allN_step hI (fun h j hj => ⟨hK' j hj, hK j (by omega)⟩)⟩, by omega⟩
  · rw [flatB, allN_yes hil hI]
    repeat' (first | with_reducible refine inw ?_ | simp (disch := omega) only [go_sem, Nat.reduceEqDiff, ↓reduceIte, reduceCtorEq, Nat.reduceAdd, Nat.reduceMul, Int.reduceToNat, List.reduceReplicate, Nat.reduceLeDiff, Nat.reduceLT, Int.reduceLT, Int.reduceLE, Int.reduceEq] | with_reducible refine giv_intro fun _h => ?_ | with_reducible refine alt_intro ?_ fun _h => ?_ | with_reducible refine pickD_nil ?_ | (with_reducible refine brc (fun _h => ?_) fun _h => ?_) <;> first | (exfalso; omega) | simp only [decide_eq_false _h] | simp only [(_h : (_ : Bool) = _)] | simp only [decide_eq_true _h] | skip)
/-! ### the moves -/
def freeB (l : List Hung) (g : List Bool) (a : Int) : Bool := decide (∀ k, k < l.length → ¬((nth l k).2.1 = a ∧ nth g k = false))
/-- One move: its number, stack, next node, and which nodes are gone. -/
def mvS (l : List Hung) (s : List Int) (nx : Nat) (g : List Bool) : Option (Int × List Int × Nat × List Bool) :=
  if 1 < s.length ∧ (nth l (nth s (s.length - 2)).toNat).2.1 = nth s (s.length - 1) ∧ freeB l g (nth s (s.length - 2)) = true then
    some (1, s.take (s.length - 2) ++ [nth s (s.length - 1)], nx, putAt g (nth s (s.length - 2)).toNat true)
  else if 1 < s.length ∧ (nth l (nth s (s.length - 1)).toNat).2.1 = nth s (s.length - 2) ∧ freeB l g (nth s (s.length - 1)) = true then
    some (2, s.take (s.length - 1), nx, putAt g (nth s (s.length - 1)).toNat true)
  else if nx < l.length then some (0, s ++ [(nx : Int)], nx + 1, g) else none
def mvF (l : List Hung) : Nat → List Int → List Int → Nat → List Bool → Option (List Int)
  | 0, out, _, _, _ => some out
  | n + 1, out, s, nx, g => if nx < l.length ∨ 1 < s.length then (match mvS l s nx g with
      | some (m, s', nx', g') => mvF l n (out ++ [m]) s' nx' g'
      | none => none) else some out
def movesR (l : List Hung) : Option (List Int) := mvF l (2 * l.length) [] [] 0 (List.replicate l.length false)
def movesT (l : List Hung) : List Int × Bool × Int := if valE l ≠ 0 then ([], false, valE l) else if (wholeB l && flatB l) = true then (match movesR l with
  | some o => (o, true, 0)
  | none => ([], false, 0)) else ([], false, 0)
/-- What holds of stack, next node and what is gone. -/
structure MvI (l : List Hung) (s : List Int) (nx : Nat) (g : List Bool) : Prop where
  le : nx ≤ l.length
  len : g.length = l.length
  st : ∀ p, p < s.length → 0 ≤ nth s p ∧ nth s p < nx ∧ nth g (nth s p).toNat = false
  asc : ∀ p q, p < q → q < s.length → nth s p < nth s q
  more : ∀ k, nx ≤ k → k < l.length → nth g k = false
theorem nth_rep {α : Type} {q : Nat} [Enc α q] {n p : Nat} (x : α) (h : p < n) : nth (List.replicate n x) p = x := by simp [nth, h]
theorem mvI_0 (l : List Hung) : MvI l [] 0 (List.replicate l.length false) := ⟨Nat.zero_le _, by simp, fun p hp => by simp at hp, fun p q _ hq => by simp at hq, fun k _ hk => nth_rep _ hk⟩
theorem mvI_left {l : List Hung} {s : List Int} {nx : Nat} {g : List Bool} (h : MvI l s nx g) (h1 : 1 < s.length) : MvI l (s.take (s.length - 2) ++ [nth s (s.length - 1)]) nx (putAt g (nth s (s.length - 2)).toNat true) := by
  have a := h.st (s.length - 2) (by omega)
  have b := h.st (s.length - 1) (by omega)
  have ab := h.asc (s.length - 2) (s.length - 1) (by omega) (by omega)
  have hnx := h.le
  have hg : (nth s (s.length - 2)).toNat < g.length := by rw [h.len]; omega
  have hl : (s.take (s.length - 2)).length = s.length - 2 := by rw [List.length_take]; omega
  have key : ∀ p, nth (s.take (s.length - 2) ++ [nth s (s.length - 1)]) p = if p < s.length - 2 then nth s p else nth [nth s (s.length - 1)] (p - (s.length - 2)) := fun p => by
    rw [nth_app, hl]
    split
    · rename_i q; rw [nth_take q]
    · rfl
  have key2 : ∀ p, p < s.length - 1 → nth (s.take (s.length - 2) ++ [nth s (s.length - 1)]) p = nth s (if p < s.length - 2 then p else s.length - 1) := fun p hp => by
    rw [key]
    split
    · rfl
    · rw [show p - (s.length - 2) = 0 by omega, nth_zero]
  have hlen : (s.take (s.length - 2) ++ [nth s (s.length - 1)]).length = s.length - 1 := by rw [List.length_append, hl, List.length_singleton]; omega
  refine ⟨h.le, by rw [putAt_len hg]; exact h.len, fun p hp => ?_, fun p q hpq hq => ?_, fun k h2 h3 => ?_⟩
  · rw [hlen] at hp
    rw [key2 p hp]
    have c := h.st (if p < s.length - 2 then p else s.length - 1) (by split <;> omega)
    refine ⟨c.1, c.2.1, ?_⟩
    rw [nth_put hg, if_neg]
    · exact c.2.2
    · split at c
      · rename_i q; rw [if_pos q]; have := h.asc p (s.length - 2) q (by omega); omega
      · rename_i q; rw [if_neg q]; omega
  · rw [hlen] at hq
    rw [key2 p (by omega), key2 q hq]
    exact h.asc _ _ (by split <;> split <;> omega) (by split <;> omega)
  · rw [nth_put hg, if_neg (by omega)]; exact h.more k h2 h3
theorem mvI_right {l : List Hung} {s : List Int} {nx : Nat} {g : List Bool} (h : MvI l s nx g) (h1 : 1 < s.length) : MvI l (s.take (s.length - 1)) nx (putAt g (nth s (s.length - 1)).toNat true) := by
  have b := h.st (s.length - 1) (by omega)
  have hnx := h.le
  have hg : (nth s (s.length - 1)).toNat < g.length := by rw [h.len]; omega
  have hl : (s.take (s.length - 1)).length = s.length - 1 := by rw [List.length_take]; omega
  refine ⟨h.le, by rw [putAt_len hg]; exact h.len, fun p hp => ?_, fun p q hpq hq => ?_, fun k h2 h3 => ?_⟩
  · rw [hl] at hp
    rw [nth_take hp]
    have c := h.st p (by omega)
    have d := h.asc p (s.length - 1) hp (by omega)
    refine ⟨c.1, c.2.1, ?_⟩
    rw [nth_put hg, if_neg (by omega)]
    exact c.2.2
  · rw [hl] at hq
    rw [nth_take (by omega), nth_take hq]
    exact h.asc _ _ hpq (by omega)
  · rw [nth_put hg, if_neg (by omega)]; exact h.more k h2 h3
theorem mvI_shift {l : List Hung} {s : List Int} {nx : Nat} {g : List Bool} (h : MvI l s nx g) (h1 : nx < l.length) : MvI l (s ++ [(nx : Int)]) (nx + 1) g := by
  have key : ∀ p, nth (s ++ [(nx : Int)]) p = if p < s.length then nth s p else nth [(nx : Int)] (p - s.length) := fun p => nth_app
  refine ⟨h1, h.len, fun p hp => ?_, fun p q hpq hq => ?_, fun k h2 h3 => h.more k (by omega) h3⟩
  · rw [List.length_append, List.length_singleton] at hp
    rw [key]
    split
    · rename_i q; have := h.st p q; exact ⟨this.1, by omega, this.2.2⟩
    · rw [show p - s.length = 0 by omega, nth_zero]
      exact ⟨by omega, by omega, by rw [Int.toNat_natCast]; exact h.more nx (Nat.le_refl _) h1⟩
  · rw [List.length_append, List.length_singleton] at hq
    rw [key, key, if_pos (by omega)]
    split
    · rename_i h2; exact h.asc p q hpq h2
    · rw [show q - s.length = 0 by omega, nth_zero]
      exact (h.st p (by omega)).2.1
end Go.Proofs.Ytkedbkdbnmmkhaa.Ev

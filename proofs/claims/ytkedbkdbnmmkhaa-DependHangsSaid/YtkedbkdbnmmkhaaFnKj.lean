/- The way from one node to another one; the law DependPaths. -/
import Derived.Test.YtkedbkdbnmmkhaaFnKi
set_option linter.unusedVariables false
set_option linter.unusedSimpArgs false
namespace Go.Proofs.Ytkedbkdbnmmkhaa.Ev
open Go Go.Proofs

/-! ### lists of numbers put together -/
/-- slices.Grow[[]int,int]: 2 parameters, 0 captured; NO [region 2 slices.go:424 panic] -/
def s84 : SC := .seq (.reg [o1 4 (.mv (.c (.slice none 0 0)))])
  (.seq (.seq (.reg [o1 5 (.mv (.t 1)),
     o1 6 (.bin .lss (.t 5) (cI 0))])
    (.cond (.t 6) (.reg [o1 7 (.mkif 9 (.c (.string ⟨#[99, 97, 110, 110, 111, 116, 32, 98, 101, 32, 110, 101, 103, 97, 116, 105, 118, 101]⟩))),
      o0 (.no)]) (.skip)))
   (.seq (.seq (.reg [o1 8 (.mv (.t 1)),
      o1 9 (.mv (.t 0)),
      o1 10 (.capL (.t 9)),
      o1 11 (.mv (.t 0)),
      o1 12 (.lenL (.t 11)),
      o1 13 (.bin .sub (.t 10) (.t 12)),
      o1 14 (.bin .sub (.t 8) (.t 13)),
      o1 1 (.mv (.t 14))])
     (.seq (.reg [o1 15 (.mv (.t 1)),
       o1 16 (.bin .gtr (.t 15) (cI 0))])
      (.cond (.t 16) (.reg [o1 17 (.mv (.t 0)),
        o1 18 (.mv (.t 0)),
        o1 19 (.capL (.t 18)),
        o1 20 (.sl 1 (.t 17) none (some (.t 19))),
        o1 21 (.mv (.t 1)),
        o1 22 (.appZ 3 1 8 [(.int .i64 0)] (.t 20) (.t 21)),
        o1 23 (.mv (.t 0)),
        o1 24 (.lenL (.t 23)),
        o1 25 (.sl 1 (.t 22) none (some (.t 24))),
        o1 0 (.mv (.t 25))]) (.skip))))
    (.seq (.reg [o1 26 (.mv (.t 0)),
      o1 4 (.mv (.t 26))])
     (.ret))))
theorem s84_ok : lookF Try.prog 84 = some (s84, 27, [.tmp 4]) := by kernel_rfl
theorem growI_ok (n : Nat) (h : 0 < n) (hn : n ≤ 8796093022208) : FnS P 84 [nilA, intA n] (fun S L r => ∃ L1, L = [some (Ob.row 3 1 (cellsL (List.replicate n (0 : Int))))] ∧ r = AV.ref (S.nm 0) n 0 0 ∧ L1 = L) := by
  have e : ((n : Int) - (0 - 0)).toNat = n := by omega
  (refine fnS_look s84_ok (by simp) fun S hS => cwp_sound _ _ _ _ ?_; simp (disch := omega) only [s84, go_sem, Nat.reduceEqDiff, ↓reduceIte, reduceCtorEq, Nat.reduceAdd, Nat.reduceMul, Int.reduceToNat, List.reduceReplicate, Nat.reduceLeDiff, Nat.reduceLT, Int.reduceLT, Int.reduceLE, Int.reduceEq])
  repeat' (first | with_reducible refine inw ?_ | simp (disch := omega) only [go_sem, Nat.reduceEqDiff, ↓reduceIte, reduceCtorEq, Nat.reduceAdd, Nat.reduceMul, Int.reduceToNat, List.reduceReplicate, Nat.reduceLeDiff, Nat.reduceLT, Int.reduceLT, Int.reduceLE, Int.reduceEq, e] | with_reducible refine giv_intro fun _h => ?_ | with_reducible refine alt_intro ?_ fun _h => ?_ | with_reducible refine pickD_nil ?_ | (with_reducible refine brc (fun _h => ?_) fun _h => ?_) <;> first | (exfalso; omega) | simp only [decide_eq_false _h] | simp only [(_h : (_ : Bool) = _)] | simp only [decide_eq_true _h] | skip)
  exact ⟨_, rfl⟩
theorem growI_nil : FnS P 84 [nilA, intA 0] (fun S L r => L = [] ∧ r = nilA) := by
  (refine fnS_look s84_ok (by simp) fun S hS => cwp_sound _ _ _ _ ?_; simp (disch := omega) only [s84, go_sem, Nat.reduceEqDiff, ↓reduceIte, reduceCtorEq, Nat.reduceAdd, Nat.reduceMul, Int.reduceToNat, List.reduceReplicate, Nat.reduceLeDiff, Nat.reduceLT, Int.reduceLT, Int.reduceLE, Int.reduceEq])
  repeat' (first | with_reducible refine inw ?_ | simp (disch := omega) only [go_sem, Nat.reduceEqDiff, ↓reduceIte, reduceCtorEq, Nat.reduceAdd, Nat.reduceMul, Int.reduceToNat, List.reduceReplicate, Nat.reduceLeDiff, Nat.reduceLT, Int.reduceLT, Int.reduceLE, Int.reduceEq] | with_reducible refine giv_intro fun _h => ?_ | with_reducible refine alt_intro ?_ fun _h => ?_ | with_reducible refine pickD_nil ?_ | (with_reducible refine brc (fun _h => ?_) fun _h => ?_) <;> first | (exfalso; omega) | simp only [decide_eq_false _h] | simp only [(_h : (_ : Bool) = _)] | simp only [decide_eq_true _h] | skip)
theorem flat_step {α : Type} {k : Nat} [Enc α k] {ls : List (List α)} {i : Nat} (h : i < ls.length) : (ls.take (i + 1)).flatten = (ls.take i).flatten ++ nth ls i := by
  rw [List.take_add_one, nth_get? h]; simp
theorem flat_le {α : Type} (ls : List (List α)) (i : Nat) : ((ls.take i).flatten).length ≤ ls.flatten.length := by
  have : ls.flatten = (ls.take i).flatten ++ (ls.drop i).flatten := by rw [← List.flatten_append, List.take_append_drop]
  rw [this]; simp
/-- slices.Concat[[]int,int]: 1 parameters, 0 captured; NO [region 7 slices.go:496 panic] -/
def s60 : SC := .seq (.reg [o1 2 (.mv (.c (.slice none 0 0)))])
  (.seq (.reg [o1 3 (.mv (cI 0))])
   (.seq (.seq (.reg [o1 9 (.mv (.t 0)),
      o1 10 (.lenL (.t 9)),
      o1 11 (.mv (cI 0))])
     (.block 0 (.loop (.seq (.reg [o1 12 (.bin .lss (.t 11) (.t 10))])
        (.seq (.cond (.t 12) (.skip) (.exit 0))
         (.seq (.block 1 (.seq (.reg [o1 13 (.iaddr 1 (.t 9) (.t 11)),
             o1 14 (.load none (.t 13)),
             o1 5 (.mv (.t 14))])
            (.seq (.reg [o1 15 (.mv (.t 3)),
              o1 16 (.mv (.t 5)),
              o1 17 (.lenL (.t 16)),
              o1 18 (.bin .add (.t 15) (.t 17)),
              o1 3 (.mv (.t 18))])
             (.seq (.reg [o1 19 (.mv (.t 3)),
               o1 20 (.bin .lss (.t 19) (cI 0))])
              (.cond (.t 20) (.reg [o1 21 (.mkif 9 (.c (.string ⟨#[108, 101, 110, 32, 111, 117, 116, 32, 111, 102, 32, 114, 97, 110, 103, 101]⟩))),
                o0 (.no)]) (.skip))))))
          (.reg [o1 22 (.bin .add (.t 11) (cI 1)),
           o1 11 (.mv (.t 22))])))))))
    (.seq (.reg [o1 23 (.mv (.t 3)),
      o1 24 (.call (.f 84) [(.c (.slice none 0 0)), (.t 23)]),
      o1 6 (.mv (.t 24))])
     (.seq (.seq (.reg [o1 25 (.mv (.t 0)),
        o1 26 (.lenL (.t 25)),
        o1 27 (.mv (cI 0))])
       (.block 2 (.loop (.seq (.reg [o1 28 (.bin .lss (.t 27) (.t 26))])
          (.seq (.cond (.t 28) (.skip) (.exit 2))
           (.seq (.block 3 (.seq (.reg [o1 29 (.iaddr 1 (.t 25) (.t 27)),
               o1 30 (.load none (.t 29)),
               o1 8 (.mv (.t 30))])
              (.reg [o1 31 (.mv (.t 6)),
               o1 32 (.mv (.t 8)),
               o1 33 (.app 3 1 8 (.t 31) (.t 32)),
               o1 6 (.mv (.t 33))])))
            (.reg [o1 34 (.bin .add (.t 27) (cI 1)),
             o1 27 (.mv (.t 34))])))))))
      (.seq (.reg [o1 35 (.mv (.t 6)),
        o1 2 (.mv (.t 35))])
       (.ret))))))
theorem s60_ok : lookF Try.prog 60 = some (s60, 36, [.tmp 2]) := by kernel_rfl
theorem concatI_ok (ls : List (List Int)) (hl : ls.length ≤ 8796093022208) (hn : ls.flatten.length ≤ 8796093022208) : Fn P 60 [sl ls] (sl ls.flatten) := by
  (refine fn_look s60_ok (by simp) (by intro k; simp only [go_sem, Nat.reduceEqDiff, ↓reduceIte, reduceCtorEq, Nat.reduceAdd, Nat.reduceMul, Int.reduceToNat, List.reduceReplicate, Nat.reduceLeDiff, Nat.reduceLT, Int.reduceLT, Int.reduceLE, Int.reduceEq]) fun S hS => cwp_sound _ _ _ _ ?_; simp (disch := omega) only [s60, go_sem, Nat.reduceEqDiff, ↓reduceIte, reduceCtorEq, Nat.reduceAdd, Nat.reduceMul, Int.reduceToNat, List.reduceReplicate, Nat.reduceLeDiff, Nat.reduceLT, Int.reduceLT, Int.reduceLE, Int.reduceEq])
  repeat' (first | with_reducible refine inw ?_ | simp (disch := omega) only [go_sem, Nat.reduceEqDiff, ↓reduceIte, reduceCtorEq, Nat.reduceAdd, Nat.reduceMul, Int.reduceToNat, List.reduceReplicate, Nat.reduceLeDiff, Nat.reduceLT, Int.reduceLT, Int.reduceLE, Int.reduceEq] | with_reducible refine giv_intro fun _h => ?_ | with_reducible refine alt_intro ?_ fun _h => ?_ | with_reducible refine pickD_nil ?_ | (with_reducible refine brc (fun _h => ?_) fun _h => ?_) <;> first | (exfalso; omega) | simp only [decide_eq_false _h] | simp only [(_h : (_ : Bool) = _)] | simp only [decide_eq_true _h] | skip)
  (refine loopC hS [0, 9, 10] (by simp only [go_sem, Nat.reduceEqDiff, ↓reduceIte, reduceCtorEq, Nat.reduceAdd, Nat.reduceMul, Int.reduceToNat, List.reduceReplicate, Nat.reduceLeDiff, Nat.reduceLT, Int.reduceLT, Int.reduceLE, Int.reduceEq]; try rfl) (fun (i : Nat) => [(3, intA (((ls.take i).flatten).length : Nat)), (11, intA i)]) (fun (i : Nat) => []) (fun (i : Nat) => i ≤ ls.length) (fun (i : Nat) => ls.length - i) (0) ?h01 ?hn1 ?rd1; case hn1 => (intro s; first | rfl | (rcases s with ⟨_, _⟩; rfl) | (rcases s with ⟨_, _, _⟩; rfl) | (rcases s with ⟨_, _, _, _⟩; rfl) | (rcases s with ⟨_, _, _, _, _⟩; rfl)))
  · simp (disch := omega) only [go_sem, Nat.reduceEqDiff, ↓reduceIte, reduceCtorEq, Nat.reduceAdd, Nat.reduceMul, Int.reduceToNat, List.reduceReplicate, Nat.reduceLeDiff, Nat.reduceLT, Int.reduceLT, Int.reduceLE, Int.reduceEq]; simp
  · rintro i hi
    replace hi : i ≤ ls.length := hi
    have b1 := flat_le ls i
    have b2 := flat_le ls (i + 1)
    by_cases hil : i < ls.length
    · rw [flat_step hil] at b2
      simp only [List.length_append] at b2
      repeat' (first | with_reducible refine inw ?_ | simp (disch := omega) only [go_sem, Nat.reduceEqDiff, ↓reduceIte, reduceCtorEq, Nat.reduceAdd, Nat.reduceMul, Int.reduceToNat, List.reduceReplicate, Nat.reduceLeDiff, Nat.reduceLT, Int.reduceLT, Int.reduceLE, Int.reduceEq] | with_reducible refine giv_intro fun _h => ?_ | with_reducible refine alt_intro ?_ fun _h => ?_ | with_reducible refine pickD_nil ?_ | (with_reducible refine brc (fun _h => ?_) fun _h => ?_) <;> first | (exfalso; omega) | simp only [decide_eq_false _h] | simp only [(_h : (_ : Bool) = _)] | simp only [decide_eq_true _h] | skip)
      refine ⟨i + 1, ⟨by omega, by omega⟩, ?_⟩
      rw [flat_step hil]; simp
    · have hl2 : ls.take i = ls := List.take_of_length_le (by omega)
      rw [hl2]
      rcases Nat.eq_zero_or_pos ls.flatten.length with h0 | h0
      · rw [h0]
        have hz : ∀ j, j < ls.length → (nth ls j).length = 0 := fun j hj => by
          have := flat_le ls (j + 1)
          rw [flat_step hj, List.length_append] at this; omega
        repeat' (first | with_reducible refine inw ?_ | simp (disch := omega) only [go_sem, Nat.reduceEqDiff, ↓reduceIte, reduceCtorEq, Nat.reduceAdd, Nat.reduceMul, Int.reduceToNat, List.reduceReplicate, Nat.reduceLeDiff, Nat.reduceLT, Int.reduceLT, Int.reduceLE, Int.reduceEq] | with_reducible refine giv_intro fun _h => ?_ | with_reducible refine alt_intro ?_ fun _h => ?_ | with_reducible refine pickD_nil ?_ | (with_reducible refine brc (fun _h => ?_) fun _h => ?_) <;> first | (exfalso; omega) | simp only [decide_eq_false _h] | simp only [(_h : (_ : Bool) = _)] | simp only [decide_eq_true _h] | skip)
        refine callN growI_nil rfl ?_
        rintro L' r ⟨rfl, rfl⟩
        repeat' (first | with_reducible refine inw ?_ | simp (disch := omega) only [go_sem, Nat.reduceEqDiff, ↓reduceIte, reduceCtorEq, Nat.reduceAdd, Nat.reduceMul, Int.reduceToNat, List.reduceReplicate, Nat.reduceLeDiff, Nat.reduceLT, Int.reduceLT, Int.reduceLE, Int.reduceEq] | with_reducible refine giv_intro fun _h => ?_ | with_reducible refine alt_intro ?_ fun _h => ?_ | with_reducible refine pickD_nil ?_ | (with_reducible refine brc (fun _h => ?_) fun _h => ?_) <;> first | (exfalso; omega) | simp only [decide_eq_false _h] | simp only [(_h : (_ : Bool) = _)] | simp only [decide_eq_true _h] | skip)
        (refine loopC hS [25, 26] (by simp only [go_sem, Nat.reduceEqDiff, ↓reduceIte, reduceCtorEq, Nat.reduceAdd, Nat.reduceMul, Int.reduceToNat, List.reduceReplicate, Nat.reduceLeDiff, Nat.reduceLT, Int.reduceLT, Int.reduceLE, Int.reduceEq]; try rfl) (fun (i : Nat) => [(6, nilA), (27, intA i)]) (fun (i : Nat) => []) (fun (i : Nat) => i ≤ ls.length) (fun (i : Nat) => ls.length - i) (0) ?h02 ?hn2 ?rd2; case hn2 => (intro s; first | rfl | (rcases s with ⟨_, _⟩; rfl) | (rcases s with ⟨_, _, _⟩; rfl) | (rcases s with ⟨_, _, _, _⟩; rfl) | (rcases s with ⟨_, _, _, _, _⟩; rfl)))
        · simp (disch := omega) only [go_sem, Nat.reduceEqDiff, ↓reduceIte, reduceCtorEq, Nat.reduceAdd, Nat.reduceMul, Int.reduceToNat, List.reduceReplicate, Nat.reduceLeDiff, Nat.reduceLT, Int.reduceLT, Int.reduceLE, Int.reduceEq]; simp
        · rintro i hi
          replace hi : i ≤ ls.length := hi
          by_cases hil : i < ls.length
          · have := hz i hil
            repeat' (first | with_reducible refine inw ?_ | simp (disch := omega) only [go_sem, Nat.reduceEqDiff, ↓reduceIte, reduceCtorEq, Nat.reduceAdd, Nat.reduceMul, Int.reduceToNat, List.reduceReplicate, Nat.reduceLeDiff, Nat.reduceLT, Int.reduceLT, Int.reduceLE, Int.reduceEq] | with_reducible refine giv_intro fun _h => ?_ | with_reducible refine alt_intro ?_ fun _h => ?_ | with_reducible refine pickD_nil ?_ | (with_reducible refine brc (fun _h => ?_) fun _h => ?_) <;> first | (exfalso; omega) | simp only [decide_eq_false _h] | simp only [(_h : (_ : Bool) = _)] | simp only [decide_eq_true _h] | skip)
            exact ⟨i + 1, ⟨by omega, by omega⟩, by omega⟩
          · repeat' (first | with_reducible refine inw ?_ | simp (disch := omega) only [go_sem, Nat.reduceEqDiff, ↓reduceIte, reduceCtorEq, Nat.reduceAdd, Nat.reduceMul, Int.reduceToNat, List.reduceReplicate, Nat.reduceLeDiff, Nat.reduceLT, Int.reduceLT, Int.reduceLE, Int.reduceEq] | with_reducible refine giv_intro fun _h => ?_ | with_reducible refine alt_intro ?_ fun _h => ?_ | with_reducible refine pickD_nil ?_ | (with_reducible refine brc (fun _h => ?_) fun _h => ?_) <;> first | (exfalso; omega) | simp only [decide_eq_false _h] | simp only [(_h : (_ : Bool) = _)] | simp only [decide_eq_true _h] | skip)
            rw [List.eq_nil_of_length_eq_zero h0]; rfl
      · repeat' (first | with_reducible refine inw ?_ | simp (disch := omega) only [go_sem, Nat.reduceEqDiff, ↓reduceIte, reduceCtorEq, Nat.reduceAdd, Nat.reduceMul, Int.reduceToNat, List.reduceReplicate, Nat.reduceLeDiff, Nat.reduceLT, Int.reduceLT, Int.reduceLE, Int.reduceEq] | with_reducible refine giv_intro fun _h => ?_ | with_reducible refine alt_intro ?_ fun _h => ?_ | with_reducible refine pickD_nil ?_ | (with_reducible refine brc (fun _h => ?_) fun _h => ?_) <;> first | (exfalso; omega) | simp only [decide_eq_false _h] | simp only [(_h : (_ : Bool) = _)] | simp only [decide_eq_true _h] | skip)
        refine callN (growI_ok ls.flatten.length h0 hn) rfl ?_
        rintro L' r ⟨L1, rfl, rfl, _⟩
        simp only [nm_stk, List.nil_append, List.length_nil, Nat.zero_add]
        repeat' (first | with_reducible refine inw ?_ | simp (disch := omega) only [go_sem, Nat.reduceEqDiff, ↓reduceIte, reduceCtorEq, Nat.reduceAdd, Nat.reduceMul, Int.reduceToNat, List.reduceReplicate, Nat.reduceLeDiff, Nat.reduceLT, Int.reduceLT, Int.reduceLE, Int.reduceEq] | with_reducible refine giv_intro fun _h => ?_ | with_reducible refine alt_intro ?_ fun _h => ?_ | with_reducible refine pickD_nil ?_ | (with_reducible refine brc (fun _h => ?_) fun _h => ?_) <;> first | (exfalso; omega) | simp only [decide_eq_false _h] | simp only [(_h : (_ : Bool) = _)] | simp only [decide_eq_true _h] | skip)
        (refine loopC hS [25, 26] (by simp only [go_sem, Nat.reduceEqDiff, ↓reduceIte, reduceCtorEq, Nat.reduceAdd, Nat.reduceMul, Int.reduceToNat, List.reduceReplicate, Nat.reduceLeDiff, Nat.reduceLT, Int.reduceLT, Int.reduceLE, Int.reduceEq]; try rfl) (fun (⟨i, full⟩ : Nat × List Int) => [(6, .ref (S.nm 0) ls.flatten.length 0 ((ls.take i).flatten).length), (27, intA i)]) (fun (⟨i, full⟩ : Nat × List Int) => [rowO 3 full]) (fun (⟨i, full⟩ : Nat × List Int) => i ≤ ls.length ∧ full.length = ls.flatten.length ∧ full.take ((ls.take i).flatten).length = (ls.take i).flatten) (fun (⟨i, full⟩ : Nat × List Int) => ls.length - i) ((0, List.replicate ls.flatten.length 0)) ?h03 ?hn3 ?rd3; case hn3 => (intro s; first | rfl | (rcases s with ⟨_, _⟩; rfl) | (rcases s with ⟨_, _, _⟩; rfl) | (rcases s with ⟨_, _, _, _⟩; rfl) | (rcases s with ⟨_, _, _, _, _⟩; rfl)))
        · simp (disch := omega) only [go_sem, Nat.reduceEqDiff, ↓reduceIte, reduceCtorEq, Nat.reduceAdd, Nat.reduceMul, Int.reduceToNat, List.reduceReplicate, Nat.reduceLeDiff, Nat.reduceLT, Int.reduceLT, Int.reduceLE, Int.reduceEq]; simp
        · rintro ⟨i, full⟩ ⟨hi, hf, ht⟩
          replace hi : i ≤ ls.length := hi
          replace hf : full.length = ls.flatten.length := hf
          replace ht : full.take ((ls.take i).flatten).length = (ls.take i).flatten := ht
          by_cases hil : i < ls.length
          · have b3 := flat_le ls (i + 1)
            rw [flat_step hil, List.length_append] at b3
            repeat' (first | with_reducible refine inw ?_ | simp (disch := omega) only [go_sem, Nat.reduceEqDiff, ↓reduceIte, reduceCtorEq, Nat.reduceAdd, Nat.reduceMul, Int.reduceToNat, List.reduceReplicate, Nat.reduceLeDiff, Nat.reduceLT, Int.reduceLT, Int.reduceLE, Int.reduceEq, ax_room] | with_reducible refine giv_intro fun _h => ?_ | with_reducible refine alt_intro ?_ fun _h => ?_ | with_reducible refine pickD_nil ?_ | (with_reducible refine brc (fun _h => ?_) fun _h => ?_) <;> first | (exfalso; omega) | simp only [decide_eq_false _h] | simp only [(_h : (_ : Bool) = _)] | simp only [decide_eq_true _h] | skip)
            refine ⟨(i + 1, full.take ((ls.take i).flatten).length ++ nth ls i ++ full.drop (((ls.take i).flatten).length + (nth ls i).length)), ?_⟩
            dsimp only
            have e1 : (full.take ((ls.take i).flatten).length).length = ((ls.take i).flatten).length := by rw [ht]
            refine ⟨⟨by omega, by omega, ?_, ?_⟩, ⟨?_, by omega⟩, rfl⟩
            · simp only [List.length_append, List.length_drop, e1]; omega
            · rw [flat_step hil, ht, List.take_left' (by simp)]
            · rw [flat_step hil, List.length_append]
          · have hl3 : ls.take i = ls := List.take_of_length_le (by omega)
            rw [hl3] at ht
            have hf2 : full = ls.flatten := by rw [← ht, List.take_of_length_le (by omega)]
            subst hf2
            repeat' (first | with_reducible refine inw ?_ | simp (disch := omega) only [go_sem, Nat.reduceEqDiff, ↓reduceIte, reduceCtorEq, Nat.reduceAdd, Nat.reduceMul, Int.reduceToNat, List.reduceReplicate, Nat.reduceLeDiff, Nat.reduceLT, Int.reduceLT, Int.reduceLE, Int.reduceEq, hl3] | with_reducible refine giv_intro fun _h => ?_ | with_reducible refine alt_intro ?_ fun _h => ?_ | with_reducible refine pickD_nil ?_ | (with_reducible refine brc (fun _h => ?_) fun _h => ?_) <;> first | (exfalso; omega) | simp only [decide_eq_false _h] | simp only [(_h : (_ : Bool) = _)] | simp only [decide_eq_true _h] | skip)

/-! ### the way -/
/-- The nodes from x upwards ahead of the first one on which k hangs, and this one. -/
def upF (l : List Hung) (k : Int) : Nat → Int → List Int × Int
  | 0, x => ([], x)
  | n + 1, x => if x < 0 ∨ hgB l k x = true then ([], x) else (x :: (upF l k n (hd l x)).1, (upF l k n (hd l x)).2)
/-- The nodes from y upwards ahead of x. -/
def downF (l : List Hung) (x : Int) : Nat → Int → List Int
  | 0, _ => []
  | n + 1, y => if y = x then [] else y :: downF l x n (hd l y)
def wayU (l : List Hung) (i k : Int) : List Int × Int := upF l k (l.length + 1) i
def wayD (l : List Hung) (x k : Int) : List Int := downF l x (l.length + 1) k
def pathT (l : List Hung) (i k : Int) : List Int × Bool × Int := if valE l ≠ 0 then ([], false, valE l) else if outB l i = true ∨ outB l k = true then ([], false, 4) else if (wayU l i k).2 < 0 then ([], false, 0) else ((wayU l i k).1 ++ ((wayU l i k).2 :: (wayD l (wayU l i k).2 k).reverse), true, 0)
theorem upF_len (l : List Hung) (k : Int) : ∀ (n : Nat) (x : Int), (upF l k n x).1.length ≤ n
  | 0, x => by simp [upF]
  | n + 1, x => by
    have := upF_len l k n (hd l x)
    rw [upF]; split <;> simp; omega
theorem downF_len (l : List Hung) (x : Int) : ∀ (n : Nat) (y : Int), (downF l x n y).length ≤ n
  | 0, y => by simp [downF]
  | n + 1, y => by
    have := downF_len l x n (hd l y)
    rw [downF]; split <;> simp; omega
theorem upF_stop {l : List Hung} {k x : Int} (h : x < 0 ∨ hgB l k x = true) : ∀ n, upF l k n x = ([], x)
  | 0 => rfl
  | n + 1 => by rw [upF, if_pos h]
theorem downF_stop (l : List Hung) (x : Int) : ∀ n, downF l x n x = []
  | 0 => rfl
  | n + 1 => by rw [downF, if_pos rfl]
theorem ext_nth {α : Type} {q : Nat} [Enc α q] {a b : List α} (h : a.length = b.length) (hn : ∀ p, p < a.length → nth a p = nth b p) : a = b := by
  refine List.ext_getElem h fun p h1 h2 => ?_
  have := hn p h1
  rwa [nth_eq h1, nth_eq h2] at this
theorem nth_rev {l : List Int} {p : Nat} (h : p < l.length) : nth l.reverse p = nth l (l.length - 1 - p) := by
  rw [nth_eq (by simpa using h), nth_eq (by omega), List.getElem_reverse]
theorem r_zero (fr : Fr) : resAV fr [] = .tup [] := rfl
theorem put_fold {α : Type} {q : Nat} [Enc α q] (l : List α) (i : Nat) (x : α) : l.take i ++ [x] ++ l.drop (i + 1) = putAt l i x := by simp [putAt]
theorem nth_put2 {cur : List Int} {a b p : Nat} (ha : a < cur.length) (hb : b < cur.length) : nth (putAt (putAt cur a (nth cur b)) b (nth cur a)) p = if p = b then nth cur a else if p = a then nth cur b else nth cur p := by
  rw [nth_put (by rw [putAt_len ha]; exact hb), nth_put ha]
abbrev triP (t : List Int × Bool × Int) : AV := .tup [sl t.1, boolA t.2.1, intA t.2.2]
/-- slices.Reverse[[]int,int]: 1 parameters, 0 captured -/
def s59 : SC := .seq (.reg [o1 4 (.mv (.t 0)),
   o1 5 (.lenL (.t 4)),
   o1 6 (.bin .sub (.t 5) (cI 1)),
   o1 2 (.mv (cI 0)),
   o1 3 (.mv (.t 6))])
  (.block 0 (.loop (.seq (.seq (.reg [o1 7 (.mv (.t 2)),
       o1 8 (.mv (.t 3)),
       o1 9 (.bin .lss (.t 7) (.t 8))])
      (.cond (.t 9) (.skip) (.exit 0)))
     (.seq (.block 1 (.regE [o1 14 (.mv (.t 0)),
        o1 15 (.mv (.t 2)),
        o1 16 (.mv (.t 0)),
        o1 17 (.mv (.t 3)),
        o1 18 (.mv (.t 0)),
        o1 19 (.mv (.t 3)),
        o1 20 (.iaddr 1 (.t 18) (.t 19)),
        o1 21 (.load none (.t 20)),
        o1 22 (.mv (.t 0)),
        o1 23 (.mv (.t 2)),
        o1 24 (.iaddr 1 (.t 22) (.t 23)),
        o1 25 (.load none (.t 24)),
        o1 26 (.iaddr 1 (.t 14) (.t 15)),
        o0 (.store 1 (.t 26) (.t 21)),
        o1 27 (.iaddr 1 (.t 16) (.t 17)),
        o0 (.store 1 (.t 27) (.t 25))]))
      (.reg [o1 10 (.mv (.t 2)),
       o1 11 (.bin .add (.t 10) (cI 1)),
       o1 12 (.mv (.t 3)),
       o1 13 (.bin .sub (.t 12) (cI 1)),
       o1 2 (.mv (.t 11)),
       o1 3 (.mv (.t 13))])))))
theorem s59_ok : lookF Try.prog 59 = some (s59, 28, []) := by kernel_rfl
/-- ablaut/depend.Path: 3 parameters, 0 captured -/
def s31 : SC := .seq (.reg [o1 6 (.mv (.c (.slice none 0 0))),
   o1 7 (.mv (cB false)),
   o1 8 (.mv (cI 0))])
  (.seq (.seq (.reg [o1 12 (.mv (.t 0)),
     o1 13 (.mv (.t 1)),
     o1 14 (.mv (.t 2)),
     o1 15 (.buildSl 3 1 2 [(.int .i64 0)] [(0, 1, (.t 13)), (1, 1, (.t 14))]),
     o1 16 (.call (.f 53) [(.t 12), (.t 15)]),
     o1 9 (.mv (.t 16))])
    (.seq (.reg [o1 17 (.mv (.t 9)),
      o1 18 (.bin .neq (.t 17) (cI 0))])
     (.cond (.t 18) (.seq (.reg [o1 19 (.mv (.t 9)),
        o1 6 (.mv (.c (.slice none 0 0))),
        o1 7 (.mv (cB false)),
        o1 8 (.mv (.t 19))])
       (.ret)) (.skip))))
   (.seq (.reg [o1 10 (.mv (.c (.slice none 0 0)))])
    (.seq (.block 0 (.loop (.seq (.seq (.reg [o1 20 (.mv (.t 1)),
          o1 21 (.bin .geq (.t 20) (cI 0)),
          o1 22 (.mv (.t 21)),
          oT 23 (.mv (.t 0)) 22,
          oT 24 (.mv (.t 2)) 22,
          oT 25 (.mv (.t 1)) 22,
          oT 26 (.call (.f 58) [(.t 23), (.t 24), (.t 25)]) 22,
          oT 27 (.un .not (.t 26)) 22,
          o1 28 (.pick (.t 22) (.t 27) (cB false))])
         (.cond (.t 28) (.skip) (.exit 0)))
        (.seq (.block 1 (.reg [o1 34 (.mv (.t 10)),
           o1 35 (.mv (.t 1)),
           o1 36 (.buildSl 3 1 1 [(.int .i64 0)] [(0, 1, (.t 35))]),
           o1 37 (.app 3 1 8 (.t 34) (.t 36)),
           o1 10 (.mv (.t 37))]))
         (.reg [o1 29 (.mv (.t 0)),
          o1 30 (.mv (.t 1)),
          o1 31 (.iaddr 3 (.t 29) (.t 30)),
          o1 32 (.faddr 1 (.t 31)),
          o1 33 (.load none (.t 32)),
          o1 1 (.mv (.t 33))])))))
     (.seq (.seq (.reg [o1 38 (.mv (.t 1)),
        o1 39 (.bin .lss (.t 38) (cI 0))])
       (.cond (.t 39) (.seq (.reg [o1 6 (.mv (.c (.slice none 0 0))),
          o1 7 (.mv (cB false)),
          o1 8 (.mv (cI 0))])
         (.ret)) (.skip)))
      (.seq (.reg [o1 11 (.mv (.c (.slice none 0 0)))])
       (.seq (.block 2 (.loop (.seq (.seq (.reg [o1 40 (.mv (.t 2)),
             o1 41 (.mv (.t 1)),
             o1 42 (.bin .neq (.t 40) (.t 41))])
            (.cond (.t 42) (.skip) (.exit 2)))
           (.seq (.block 3 (.reg [o1 48 (.mv (.t 11)),
              o1 49 (.mv (.t 2)),
              o1 50 (.buildSl 3 1 1 [(.int .i64 0)] [(0, 1, (.t 49))]),
              o1 51 (.app 3 1 8 (.t 48) (.t 50)),
              o1 11 (.mv (.t 51))]))
            (.reg [o1 43 (.mv (.t 0)),
             o1 44 (.mv (.t 2)),
             o1 45 (.iaddr 3 (.t 43) (.t 44)),
             o1 46 (.faddr 1 (.t 45)),
             o1 47 (.load none (.t 46)),
             o1 2 (.mv (.t 47))])))))
        (.seq (.reg [o1 52 (.mv (.t 11)),
          o1 53 (.call (.f 59) [(.t 52)])])
         (.seq (.reg [o1 54 (.mv (.t 10)),
           o1 55 (.mv (.t 1)),
           o1 56 (.buildSl 3 1 1 [(.int .i64 0)] [(0, 1, (.t 55))]),
           o1 57 (.mv (.t 11)),
           o1 58 (.buildSl 39 1 3 [(.slice none 0 0)] [(0, 1, (.t 54)), (1, 1, (.t 56)), (2, 1, (.t 57))]),
           o1 59 (.call (.f 60) [(.t 58)]),
           o1 6 (.mv (.t 59)),
           o1 7 (.mv (cB true)),
           o1 8 (.mv (cI 0))])
          (.ret)))))))))
theorem s31_ok : lookF Try.prog 31 = some (s31, 60, [.tmp 6, .tmp 7, .tmp 8]) := by kernel_rfl
set_option maxHeartbeats 2000000 in
theorem path_ok (l : List Hung) (hs : SmH l) (i k : Int) : Fn P 31 [sl l, intA i, intA k] (triP (pathT l i k)) := by
  have c1 := at_ok l [i, k] hs
  have ea : atE l [i, k] = if valE l ≠ 0 then valE l else if (outB l i || outB l k) = true then 4 else 0 := by
    rw [atE]; simp only [List.any_cons, List.any_nil, Bool.or_false]; rfl
  rw [ea] at c1
  by_cases h1 : valE l = 0
  · obtain ⟨v1, v2, v3⟩ := valE_ok h1
    rw [if_neg (by omega)] at c1
    by_cases h2 : outB l i = true ∨ outB l k = true
    · rw [if_pos (by rw [Bool.or_eq_true]; exact h2)] at c1
      rw [pathT, if_neg (by omega), if_pos h2]
      (refine fn_look s31_ok (by simp) (by intro k; simp only [go_sem, Nat.reduceEqDiff, ↓reduceIte, reduceCtorEq, Nat.reduceAdd, Nat.reduceMul, Int.reduceToNat, List.reduceReplicate, Nat.reduceLeDiff, Nat.reduceLT, Int.reduceLT, Int.reduceLE, Int.reduceEq]) fun S hS => cwp_sound _ _ _ _ ?_; simp (disch := omega) only [s31, go_sem, Nat.reduceEqDiff, ↓reduceIte, reduceCtorEq, Nat.reduceAdd, Nat.reduceMul, Int.reduceToNat, List.reduceReplicate, Nat.reduceLeDiff, Nat.reduceLT, Int.reduceLT, Int.reduceLE, Int.reduceEq])
      repeat' (first | with_reducible refine inw ?_ | simp (disch := omega) only [go_sem, Nat.reduceEqDiff, ↓reduceIte, reduceCtorEq, Nat.reduceAdd, Nat.reduceMul, Int.reduceToNat, List.reduceReplicate, Nat.reduceLeDiff, Nat.reduceLT, Int.reduceLT, Int.reduceLE, Int.reduceEq] | (with_reducible apply call_lend (c1)); (focus simp (disch := omega) only [go_sem, Nat.reduceEqDiff, ↓reduceIte, reduceCtorEq, Nat.reduceAdd, Nat.reduceMul, Int.reduceToNat, List.reduceReplicate, Nat.reduceLeDiff, Nat.reduceLT, Int.reduceLT, Int.reduceLE, Int.reduceEq] <;> rfl); (focus rfl) | with_reducible refine giv_intro fun _h => ?_ | with_reducible refine alt_intro ?_ fun _h => ?_ | with_reducible refine pickD_nil ?_ | (with_reducible refine brc (fun _h => ?_) fun _h => ?_) <;> first | (exfalso; omega) | simp only [decide_eq_false _h] | simp only [(_h : (_ : Bool) = _)] | simp only [decide_eq_true _h] | skip)
      all_goals rfl
    · rw [if_neg (by rw [Bool.or_eq_true]; exact h2)] at c1
      rw [pathT, if_neg (by omega), if_neg h2]
      have hr1 := outB_no (by simpa using fun h => h2 (.inl h) : outB l i = false)
      have hr2 := outB_no (by simpa using fun h => h2 (.inr h) : outB l k = false)
      (refine fn_look s31_ok (by simp) (by intro k; simp only [go_sem, Nat.reduceEqDiff, ↓reduceIte, reduceCtorEq, Nat.reduceAdd, Nat.reduceMul, Int.reduceToNat, List.reduceReplicate, Nat.reduceLeDiff, Nat.reduceLT, Int.reduceLT, Int.reduceLE, Int.reduceEq]) fun S hS => cwp_sound _ _ _ _ ?_; simp (disch := omega) only [s31, go_sem, Nat.reduceEqDiff, ↓reduceIte, reduceCtorEq, Nat.reduceAdd, Nat.reduceMul, Int.reduceToNat, List.reduceReplicate, Nat.reduceLeDiff, Nat.reduceLT, Int.reduceLT, Int.reduceLE, Int.reduceEq])
      repeat' (first | with_reducible refine inw ?_ | simp (disch := omega) only [go_sem, Nat.reduceEqDiff, ↓reduceIte, reduceCtorEq, Nat.reduceAdd, Nat.reduceMul, Int.reduceToNat, List.reduceReplicate, Nat.reduceLeDiff, Nat.reduceLT, Int.reduceLT, Int.reduceLE, Int.reduceEq] | (with_reducible apply call_lend (c1)); (focus simp (disch := omega) only [go_sem, Nat.reduceEqDiff, ↓reduceIte, reduceCtorEq, Nat.reduceAdd, Nat.reduceMul, Int.reduceToNat, List.reduceReplicate, Nat.reduceLeDiff, Nat.reduceLT, Int.reduceLT, Int.reduceLE, Int.reduceEq] <;> rfl); (focus rfl) | with_reducible refine giv_intro fun _h => ?_ | with_reducible refine alt_intro ?_ fun _h => ?_ | with_reducible refine pickD_nil ?_ | (with_reducible refine brc (fun _h => ?_) fun _h => ?_) <;> first | (exfalso; omega) | simp only [decide_eq_false _h] | simp only [(_h : (_ : Bool) = _)] | simp only [decide_eq_true _h] | skip)
      refine nil_row 10 3 1 (by simp (disch := omega) only [go_sem, Nat.reduceEqDiff, ↓reduceIte, reduceCtorEq, Nat.reduceAdd, Nat.reduceMul, Int.reduceToNat, List.reduceReplicate, Nat.reduceLeDiff, Nat.reduceLT, Int.reduceLT, Int.reduceLE, Int.reduceEq]) ?_
      (refine loopC hS [0, 2] (by simp only [go_sem, Nat.reduceEqDiff, ↓reduceIte, reduceCtorEq, Nat.reduceAdd, Nat.reduceMul, Int.reduceToNat, List.reduceReplicate, Nat.reduceLeDiff, Nat.reduceLT, Int.reduceLT, Int.reduceLE, Int.reduceEq]; try rfl) (fun (⟨n, x, up⟩ : Nat × Int × List Int) => [(1, intA x), (10, own S 1 up)]) (fun (⟨n, x, up⟩ : Nat × Int × List Int) => [none, rowO 3 up]) (fun (⟨n, x, up⟩ : Nat × Int × List Int) => -2 ≤ x ∧ x < l.length ∧ it l n x < 0 ∧ up.length + n ≤ l.length + 1 ∧ wayU l i k = (up ++ (upF l k n x).1, (upF l k n x).2)) (fun (⟨n, x, up⟩ : Nat × Int × List Int) => n) ((l.length + 1, i, [])) ?h04 ?hn4 ?rd4; case hn4 => (intro s; first | rfl | (rcases s with ⟨_, _⟩; rfl) | (rcases s with ⟨_, _, _⟩; rfl) | (rcases s with ⟨_, _, _, _⟩; rfl) | (rcases s with ⟨_, _, _, _, _⟩; rfl)))
      · exact ⟨⟨by omega, by omega, it_mono l (ends_len v2 v3 (by omega)) (by omega), by simp, rfl⟩, by simp (disch := omega) only [go_sem, Nat.reduceEqDiff, ↓reduceIte, reduceCtorEq, Nat.reduceAdd, Nat.reduceMul, Int.reduceToNat, List.reduceReplicate, Nat.reduceLeDiff, Nat.reduceLT, Int.reduceLT, Int.reduceLE, Int.reduceEq], by simp (disch := omega) only [go_sem, Nat.reduceEqDiff, ↓reduceIte, reduceCtorEq, Nat.reduceAdd, Nat.reduceMul, Int.reduceToNat, List.reduceReplicate, Nat.reduceLeDiff, Nat.reduceLT, Int.reduceLT, Int.reduceLE, Int.reduceEq]⟩
      rintro ⟨n, x, up⟩ ⟨hx0, hx1, hx2, hn, hI⟩
      replace hx0 : -2 ≤ x := hx0
      replace hx1 : x < l.length := hx1
      replace hx2 : it l n x < 0 := hx2
      replace hn : up.length + n ≤ l.length + 1 := hn
      replace hI : wayU l i k = (up ++ (upF l k n x).1, (upF l k n x).2) := hI
      by_cases hx : x < 0
      · rw [upF_stop (.inl hx), List.append_nil] at hI
        rw [hI, if_pos hx]
        repeat' (first | with_reducible refine inw ?_ | simp (disch := omega) only [go_sem, Nat.reduceEqDiff, ↓reduceIte, reduceCtorEq, Nat.reduceAdd, Nat.reduceMul, Int.reduceToNat, List.reduceReplicate, Nat.reduceLeDiff, Nat.reduceLT, Int.reduceLT, Int.reduceLE, Int.reduceEq] | with_reducible refine giv_intro fun _h => ?_ | with_reducible refine alt_intro ?_ fun _h => ?_ | with_reducible refine pickD_nil ?_ | (with_reducible refine brc (fun _h => ?_) fun _h => ?_) <;> first | (exfalso; omega) | simp only [decide_eq_false _h] | simp only [(_h : (_ : Bool) = _)] | simp only [decide_eq_true _h] | skip)
        rfl
      · have c2 := hangs_ok l v2 v3 k x (by omega) (by omega) (by omega)
        by_cases hg : hgB l k x = true
        · rw [upF_stop (.inr hg), List.append_nil] at hI
          rw [hI, if_neg (by dsimp only; omega)]
          rw [hg] at c2
          have hkx := (hgB_iff v2 v3 hr2.2).1 hg
          dsimp only
          repeat' (first | with_reducible refine inw ?_ | simp (disch := omega) only [go_sem, Nat.reduceEqDiff, ↓reduceIte, reduceCtorEq, Nat.reduceAdd, Nat.reduceMul, Int.reduceToNat, List.reduceReplicate, Nat.reduceLeDiff, Nat.reduceLT, Int.reduceLT, Int.reduceLE, Int.reduceEq] | (with_reducible apply call (c2)); (focus simp (disch := omega) only [go_sem, Nat.reduceEqDiff, ↓reduceIte, reduceCtorEq, Nat.reduceAdd, Nat.reduceMul, Int.reduceToNat, List.reduceReplicate, Nat.reduceLeDiff, Nat.reduceLT, Int.reduceLT, Int.reduceLE, Int.reduceEq] <;> rfl) | with_reducible refine giv_intro fun _h => ?_ | with_reducible refine alt_intro ?_ fun _h => ?_ | with_reducible refine pickD_nil ?_ | (with_reducible refine brc (fun _h => ?_) fun _h => ?_) <;> first | (exfalso; omega) | simp only [decide_eq_false _h] | simp only [(_h : (_ : Bool) = _)] | simp only [decide_eq_true _h] | skip)
          refine nil_row 11 3 1 (by simp (disch := omega) only [go_sem, Nat.reduceEqDiff, ↓reduceIte, reduceCtorEq, Nat.reduceAdd, Nat.reduceMul, Int.reduceToNat, List.reduceReplicate, Nat.reduceLeDiff, Nat.reduceLT, Int.reduceLT, Int.reduceLE, Int.reduceEq]) ?_
          (refine loopC hS [0, 1, 10] (by simp only [go_sem, Nat.reduceEqDiff, ↓reduceIte, reduceCtorEq, Nat.reduceAdd, Nat.reduceMul, Int.reduceToNat, List.reduceReplicate, Nat.reduceLeDiff, Nat.reduceLT, Int.reduceLT, Int.reduceLE, Int.reduceEq]; try rfl) (fun (⟨m, y, dn⟩ : Nat × Int × List Int) => [(2, intA y), (11, own S 2 dn)]) (fun (⟨m, y, dn⟩ : Nat × Int × List Int) => [none, rowO 3 up, rowO 3 dn]) (fun (⟨m, y, dn⟩ : Nat × Int × List Int) => 0 ≤ y ∧ y < l.length ∧ Hg l y x ∧ it l m y < 0 ∧ dn.length + m ≤ l.length + 1 ∧ wayD l x k = dn ++ downF l x m y) (fun (⟨m, y, dn⟩ : Nat × Int × List Int) => m) ((l.length + 1, k, [])) ?h05 ?hn5 ?rd5; case hn5 => (intro s; first | rfl | (rcases s with ⟨_, _⟩; rfl) | (rcases s with ⟨_, _, _⟩; rfl) | (rcases s with ⟨_, _, _, _⟩; rfl) | (rcases s with ⟨_, _, _, _, _⟩; rfl)))
          · exact ⟨⟨by omega, by omega, hkx, it_mono l (ends_len v2 v3 (by omega)) (by omega), by simp, rfl⟩, by simp (disch := omega) only [go_sem, Nat.reduceEqDiff, ↓reduceIte, reduceCtorEq, Nat.reduceAdd, Nat.reduceMul, Int.reduceToNat, List.reduceReplicate, Nat.reduceLeDiff, Nat.reduceLT, Int.reduceLT, Int.reduceLE, Int.reduceEq], by simp (disch := omega) only [go_sem, Nat.reduceEqDiff, ↓reduceIte, reduceCtorEq, Nat.reduceAdd, Nat.reduceMul, Int.reduceToNat, List.reduceReplicate, Nat.reduceLeDiff, Nat.reduceLT, Int.reduceLT, Int.reduceLE, Int.reduceEq]⟩
          rintro ⟨m, y, dn⟩ ⟨hy0, hy1, hyx, hy2, hm, hJ⟩
          replace hy0 : 0 ≤ y := hy0
          replace hy1 : y < l.length := hy1
          replace hyx : Hg l y x := hyx
          replace hy2 : it l m y < 0 := hy2
          replace hm : dn.length + m ≤ l.length + 1 := hm
          replace hJ : wayD l x k = dn ++ downF l x m y := hJ
          by_cases hy : y = x
          · subst hy
            rw [downF_stop, List.append_nil] at hJ
            rw [hJ]
            repeat' (first | with_reducible refine inw ?_ | simp (disch := omega) only [go_sem, Nat.reduceEqDiff, ↓reduceIte, reduceCtorEq, Nat.reduceAdd, Nat.reduceMul, Int.reduceToNat, List.reduceReplicate, Nat.reduceLeDiff, Nat.reduceLT, Int.reduceLT, Int.reduceLE, Int.reduceEq] | (with_reducible refine callI s59_ok (by simp) hS (cwp_sound _ _ _ _ ?_)); simp (disch := omega) only [s59, go_sem, Nat.reduceEqDiff, ↓reduceIte, reduceCtorEq, Nat.reduceAdd, Nat.reduceMul, Int.reduceToNat, List.reduceReplicate, Nat.reduceLeDiff, Nat.reduceLT, Int.reduceLT, Int.reduceLE, Int.reduceEq] | with_reducible refine giv_intro fun _h => ?_ | with_reducible refine alt_intro ?_ fun _h => ?_ | with_reducible refine pickD_nil ?_ | (with_reducible refine brc (fun _h => ?_) fun _h => ?_) <;> first | (exfalso; omega) | simp only [decide_eq_false _h] | simp only [(_h : (_ : Bool) = _)] | simp only [decide_eq_true _h] | skip)
            
            (refine loopC hS [0] (by simp only [go_sem, Nat.reduceEqDiff, ↓reduceIte, reduceCtorEq, Nat.reduceAdd, Nat.reduceMul, Int.reduceToNat, List.reduceReplicate, Nat.reduceLeDiff, Nat.reduceLT, Int.reduceLT, Int.reduceLE, Int.reduceEq]; try rfl) (fun (⟨j, cur⟩ : Nat × List Int) => [(2, intA j), (3, intA ((dn.length : Int) - 1 - j))]) (fun (⟨j, cur⟩ : Nat × List Int) => [none, rowO 3 up, rowO 3 cur]) (fun (⟨j, cur⟩ : Nat × List Int) => cur.length = dn.length ∧ (j : Int) ≤ dn.length - j + 1 ∧ ∀ p, p < dn.length → nth cur p = if p < j ∨ dn.length ≤ p + j then nth dn (dn.length - 1 - p) else nth dn p) (fun (⟨j, cur⟩ : Nat × List Int) => dn.length - j) ((0, dn)) ?h06 ?hn6 ?rd6; case hn6 => (intro s; first | rfl | (rcases s with ⟨_, _⟩; rfl) | (rcases s with ⟨_, _, _⟩; rfl) | (rcases s with ⟨_, _, _, _⟩; rfl) | (rcases s with ⟨_, _, _, _, _⟩; rfl)))
            · refine ⟨⟨rfl, by omega, fun p hp => ?_⟩, by simp (disch := omega) only [go_sem, Nat.reduceEqDiff, ↓reduceIte, reduceCtorEq, Nat.reduceAdd, Nat.reduceMul, Int.reduceToNat, List.reduceReplicate, Nat.reduceLeDiff, Nat.reduceLT, Int.reduceLT, Int.reduceLE, Int.reduceEq]; omega, by simp (disch := omega) only [go_sem, Nat.reduceEqDiff, ↓reduceIte, reduceCtorEq, Nat.reduceAdd, Nat.reduceMul, Int.reduceToNat, List.reduceReplicate, Nat.reduceLeDiff, Nat.reduceLT, Int.reduceLT, Int.reduceLE, Int.reduceEq]⟩
              rw [if_neg (by omega)]
            rintro ⟨j, cur⟩ ⟨hcl, hj, hC⟩
            replace hcl : cur.length = dn.length := hcl
            replace hj : (j : Int) ≤ dn.length - j + 1 := hj
            replace hC : ∀ p, p < dn.length → nth cur p = if p < j ∨ dn.length ≤ p + j then nth dn (dn.length - 1 - p) else nth dn p := hC
            by_cases hjj : (j : Int) < dn.length - 1 - j
            · have e1 : (dn.length : Int) - 1 - j = ((dn.length - 1 - j : Nat) : Int) := by omega
              have hja : j < cur.length := by omega
              have hjb : dn.length - 1 - j < cur.length := by omega
              repeat' (first | with_reducible refine inw ?_ | simp (disch := omega) only [go_sem, Nat.reduceEqDiff, ↓reduceIte, reduceCtorEq, Nat.reduceAdd, Nat.reduceMul, Int.reduceToNat, List.reduceReplicate, Nat.reduceLeDiff, Nat.reduceLT, Int.reduceLT, Int.reduceLE, Int.reduceEq, e1, putAt_len, put_fold] | with_reducible refine giv_intro fun _h => ?_ | with_reducible refine alt_intro ?_ fun _h => ?_ | with_reducible refine pickD_nil ?_ | (with_reducible refine brc (fun _h => ?_) fun _h => ?_) <;> first | (exfalso; omega) | simp only [decide_eq_false _h] | simp only [(_h : (_ : Bool) = _)] | simp only [decide_eq_true _h] | skip)
              refine ⟨(j + 1, putAt (putAt cur j (nth cur (dn.length - 1 - j))) (dn.length - 1 - j) (nth cur j)), ?_⟩
              dsimp only
              refine ⟨⟨by omega, by rw [putAt_len (by rw [putAt_len hja]; exact hjb), putAt_len hja]; exact hcl, by omega, fun p hp => ?_⟩, ⟨by omega, by omega⟩, rfl⟩
              rw [nth_put2 hja hjb]
              by_cases q1 : p = dn.length - 1 - j
              · rw [if_pos q1, if_pos (by omega), hC j (by omega), if_neg (by omega)]; congr 1; omega
              · rw [if_neg q1]
                by_cases q2 : p = j
                · rw [if_pos q2, if_pos (by omega), hC _ (by omega), if_neg (by omega)]; congr 1; omega
                · rw [if_neg q2, hC p hp]
                  by_cases q3 : p < j ∨ dn.length ≤ p + j
                  · rw [if_pos q3, if_pos (by omega)]
                  · rw [if_neg q3, if_neg (by omega)]
            · have hrev : cur = dn.reverse := by
                refine ext_nth (by simp; omega) fun p hp => ?_
                rw [hC p (by omega), nth_rev (by omega)]
                by_cases hc : p < j ∨ dn.length ≤ p + j
                · rw [if_pos hc]
                · rw [if_neg hc]; congr 1; omega
              subst hrev
              have k2 := concatI_ok [up, [y], dn.reverse] (by simp) (by simp; omega)
              have ef : List.flatten [up, [y], dn.reverse] = up ++ (y :: dn.reverse) := by simp
              rw [ef] at k2
              repeat' (first | with_reducible refine inw ?_ | simp (disch := omega) only [go_sem, Nat.reduceEqDiff, ↓reduceIte, reduceCtorEq, Nat.reduceAdd, Nat.reduceMul, Int.reduceToNat, List.reduceReplicate, Nat.reduceLeDiff, Nat.reduceLT, Int.reduceLT, Int.reduceLE, Int.reduceEq, r_zero] | (with_reducible apply call_give (k2)); (focus simp (disch := omega) only [go_sem, Nat.reduceEqDiff, ↓reduceIte, reduceCtorEq, Nat.reduceAdd, Nat.reduceMul, Int.reduceToNat, List.reduceReplicate, Nat.reduceLeDiff, Nat.reduceLT, Int.reduceLT, Int.reduceLE, Int.reduceEq, r_zero] <;> rfl) | with_reducible refine giv_intro fun _h => ?_ | with_reducible refine alt_intro ?_ fun _h => ?_ | with_reducible refine pickD_nil ?_ | (with_reducible refine brc (fun _h => ?_) fun _h => ?_) <;> first | (exfalso; omega) | simp only [decide_eq_false _h] | simp only [(_h : (_ : Bool) = _)] | simp only [decide_eq_true _h] | skip)
          · have hh := hd_nth (l := l) hy0
            cases m with
            | zero => exact absurd hy2 (by show ¬y < 0; omega)
            | succ m =>
              rw [downF, if_neg hy] at hJ
              have hst := (hg_step hy0 hy).1 hyx
              have hlt := hd_lt v2 hy1
              have h0 : 0 ≤ hd l y := by
                rcases Int.lt_or_le (hd l y) 0 with h | h
                · exact absurd hst (hg_neg h)
                · exact h
              repeat' (first | with_reducible refine inw ?_ | simp (disch := omega) only [go_sem, Nat.reduceEqDiff, ↓reduceIte, reduceCtorEq, Nat.reduceAdd, Nat.reduceMul, Int.reduceToNat, List.reduceReplicate, Nat.reduceLeDiff, Nat.reduceLT, Int.reduceLT, Int.reduceLE, Int.reduceEq, ← hh] | with_reducible refine giv_intro fun _h => ?_ | with_reducible refine alt_intro ?_ fun _h => ?_ | with_reducible refine pickD_nil ?_ | (with_reducible refine brc (fun _h => ?_) fun _h => ?_) <;> first | (exfalso; omega) | simp only [decide_eq_false _h] | simp only [(_h : (_ : Bool) = _)] | simp only [decide_eq_true _h] | skip)
              refine ⟨(m, hd l y, dn ++ [y]), ?_⟩
              dsimp only
              exact ⟨⟨by omega, h0, hlt, hst, hy2, by simp; omega, by rw [hJ]; simp⟩, ⟨rfl, by simp⟩, rfl⟩
        · rw [show hgB l k x = false by simpa using hg] at c2
          have hh := hd_nth (l := l) (x := x) (by omega)
          cases n with
          | zero => exact absurd hx2 hx
          | succ n =>
            rw [upF, if_neg (by rw [not_or]; exact ⟨hx, hg⟩)] at hI
            have hlt := hd_lt v2 hx1
            have hlo := hd_lo v2 hx1 hx0
            repeat' (first | with_reducible refine inw ?_ | simp (disch := omega) only [go_sem, Nat.reduceEqDiff, ↓reduceIte, reduceCtorEq, Nat.reduceAdd, Nat.reduceMul, Int.reduceToNat, List.reduceReplicate, Nat.reduceLeDiff, Nat.reduceLT, Int.reduceLT, Int.reduceLE, Int.reduceEq, ← hh] | (with_reducible apply call (c2)); (focus simp (disch := omega) only [go_sem, Nat.reduceEqDiff, ↓reduceIte, reduceCtorEq, Nat.reduceAdd, Nat.reduceMul, Int.reduceToNat, List.reduceReplicate, Nat.reduceLeDiff, Nat.reduceLT, Int.reduceLT, Int.reduceLE, Int.reduceEq, ← hh] <;> rfl) | with_reducible refine giv_intro fun _h => ?_ | with_reducible refine alt_intro ?_ fun _h => ?_ | with_reducible refine pickD_nil ?_ | (with_reducible refine brc (fun _h => ?_) fun _h => ?_) <;> first | (exfalso; omega) | simp only [decide_eq_false _h] | simp only [(_h : (_ : Bool) = _)] | simp only [decide_eq_true _h] | skip)
            refine ⟨(n, hd l x, up ++ [x]), ?_⟩
            dsimp only
            exact ⟨⟨by omega, hlo, hlt, hx2, by simp; omega, by rw [hI]; simp⟩, ⟨rfl, by simp⟩, rfl⟩
  · rw [if_pos h1] at c1
    rw [pathT, if_pos h1]
    (refine fn_look s31_ok (by simp) (by intro k; simp only [go_sem, Nat.reduceEqDiff, ↓reduceIte, reduceCtorEq, Nat.reduceAdd, Nat.reduceMul, Int.reduceToNat, List.reduceReplicate, Nat.reduceLeDiff, Nat.reduceLT, Int.reduceLT, Int.reduceLE, Int.reduceEq]) fun S hS => cwp_sound _ _ _ _ ?_; simp (disch := omega) only [s31, go_sem, Nat.reduceEqDiff, ↓reduceIte, reduceCtorEq, Nat.reduceAdd, Nat.reduceMul, Int.reduceToNat, List.reduceReplicate, Nat.reduceLeDiff, Nat.reduceLT, Int.reduceLT, Int.reduceLE, Int.reduceEq])
    repeat' (first | with_reducible refine inw ?_ | simp (disch := omega) only [go_sem, Nat.reduceEqDiff, ↓reduceIte, reduceCtorEq, Nat.reduceAdd, Nat.reduceMul, Int.reduceToNat, List.reduceReplicate, Nat.reduceLeDiff, Nat.reduceLT, Int.reduceLT, Int.reduceLE, Int.reduceEq] | (with_reducible apply call_lend (c1)); (focus simp (disch := omega) only [go_sem, Nat.reduceEqDiff, ↓reduceIte, reduceCtorEq, Nat.reduceAdd, Nat.reduceMul, Int.reduceToNat, List.reduceReplicate, Nat.reduceLeDiff, Nat.reduceLT, Int.reduceLT, Int.reduceLE, Int.reduceEq] <;> rfl); (focus rfl) | with_reducible refine giv_intro fun _h => ?_ | with_reducible refine alt_intro ?_ fun _h => ?_ | with_reducible refine pickD_nil ?_ | (with_reducible refine brc (fun _h => ?_) fun _h => ?_) <;> first | (exfalso; omega) | simp only [decide_eq_false _h] | simp only [(_h : (_ : Bool) = _)] | simp only [decide_eq_true _h] | skip)
    all_goals rfl
/-- ablaut/ablautref21.Path: 3 parameters, 0 captured -/
def s32 : SC := .seq (.reg [o1 6 (.mv (.c (.slice none 0 0))),
   o1 7 (.mv (cB false)),
   o1 8 (.mv (cI 0))])
  (.seq (.seq (.reg [o1 13 (.mv (.t 0)),
     o1 14 (.call (.f 45) [(.t 13)]),
     o1 9 (.mv (.t 14))])
    (.seq (.reg [o1 15 (.mv (.t 9)),
      o1 16 (.bin .neq (.t 15) (cI 0))])
     (.cond (.t 16) (.seq (.reg [o1 17 (.mv (.t 9)),
        o1 6 (.mv (.c (.slice none 0 0))),
        o1 7 (.mv (cB false)),
        o1 8 (.mv (.t 17))])
       (.ret)) (.skip))))
   (.seq (.seq (.reg [o1 18 (.mv (.t 1)),
      o1 19 (.bin .lss (.t 18) (cI 0)),
      o1 20 (.mv (.t 19)),
      oF 21 (.mv (.t 1)) 20,
      oF 22 (.mv (.t 0)) 20,
      oF 23 (.lenL (.t 22)) 20,
      oF 24 (.bin .geq (.t 21) (.t 23)) 20,
      o1 25 (.pick (.t 20) (cB true) (.t 24)),
      o1 26 (.mv (.t 25)),
      oF 27 (.mv (.t 2)) 26,
      oF 28 (.bin .lss (.t 27) (cI 0)) 26,
      o1 29 (.pick (.t 26) (cB true) (.t 28)),
      o1 30 (.mv (.t 29)),
      oF 31 (.mv (.t 2)) 30,
      oF 32 (.mv (.t 0)) 30,
      oF 33 (.lenL (.t 32)) 30,
      oF 34 (.bin .geq (.t 31) (.t 33)) 30,
      o1 35 (.pick (.t 30) (cB true) (.t 34))])
     (.cond (.t 35) (.seq (.reg [o1 6 (.mv (.c (.slice none 0 0))),
        o1 7 (.mv (cB false)),
        o1 8 (.mv (cI 4))])
       (.ret)) (.skip)))
    (.seq (.reg [o1 10 (.mv (.c (.slice none 0 0))),
      o1 11 (.mv (.c (.slice none 0 0)))])
     (.seq (.reg [o1 36 (.mv (.t 1)),
       o1 12 (.mv (.t 36))])
      (.seq (.block 0 (.loop (.seq (.seq (.reg [o1 37 (.mv (.t 0)),
            o1 38 (.mv (.t 2)),
            o1 39 (.mv (.t 12)),
            o1 40 (.call (.f 61) [(.t 37), (.t 38), (.t 39)]),
            o1 41 (.un .not (.t 40))])
           (.cond (.t 41) (.skip) (.exit 0)))
          (.block 1 (.seq (.reg [o1 42 (.mv (.t 10)),
             o1 43 (.mv (.t 12)),
             o1 44 (.buildSl 3 1 1 [(.int .i64 0)] [(0, 1, (.t 43))]),
             o1 45 (.app 3 1 8 (.t 42) (.t 44)),
             o1 10 (.mv (.t 45))])
            (.seq (.reg [o1 46 (.mv (.t 0)),
              o1 47 (.mv (.t 12)),
              o1 48 (.iaddr 3 (.t 46) (.t 47)),
              o1 49 (.faddr 1 (.t 48)),
              o1 50 (.load none (.t 49)),
              o1 12 (.mv (.t 50))])
             (.seq (.reg [o1 51 (.mv (.t 12)),
               o1 52 (.bin .lss (.t 51) (cI 0))])
              (.cond (.t 52) (.seq (.reg [o1 6 (.mv (.c (.slice none 0 0))),
                 o1 7 (.mv (cB false)),
                 o1 8 (.mv (cI 0))])
                (.ret)) (.skip)))))))))
       (.seq (.block 2 (.loop (.seq (.seq (.reg [o1 53 (.mv (.t 2)),
             o1 54 (.mv (.t 12)),
             o1 55 (.bin .neq (.t 53) (.t 54))])
            (.cond (.t 55) (.skip) (.exit 2)))
           (.block 3 (.seq (.reg [o1 56 (.mv (.t 2)),
              o1 57 (.buildSl 3 1 1 [(.int .i64 0)] [(0, 1, (.t 56))]),
              o1 58 (.mv (.t 11)),
              o1 59 (.app 3 1 8 (.t 57) (.t 58)),
              o1 11 (.mv (.t 59))])
             (.reg [o1 60 (.mv (.t 0)),
              o1 61 (.mv (.t 2)),
              o1 62 (.iaddr 3 (.t 60) (.t 61)),
              o1 63 (.faddr 1 (.t 62)),
              o1 64 (.load none (.t 63)),
              o1 2 (.mv (.t 64))]))))))
        (.seq (.reg [o1 65 (.mv (.t 10)),
          o1 66 (.mv (.t 12)),
          o1 67 (.buildSl 3 1 1 [(.int .i64 0)] [(0, 1, (.t 66))]),
          o1 68 (.app 3 1 8 (.t 65) (.t 67)),
          o1 69 (.mv (.t 11)),
          o1 70 (.app 3 1 8 (.t 68) (.t 69)),
          o1 6 (.mv (.t 70)),
          o1 7 (.mv (cB true)),
          o1 8 (.mv (cI 0))])
         (.ret))))))))
theorem s32_ok : lookF Try.prog 32 = some (s32, 71, [.tmp 6, .tmp 7, .tmp 8]) := by kernel_rfl
set_option maxHeartbeats 2000000 in
theorem rPath_ok (l : List Hung) (hs : SmH l) (i k : Int) : Fn P 32 [sl l, intA i, intA k] (triP (pathT l i k)) := by
  have c1 := rValidate_ok l hs
  by_cases h1 : valE l = 0
  · obtain ⟨v1, v2, v3⟩ := valE_ok h1
    rw [h1] at c1
    by_cases h2 : outB l i = true ∨ outB l k = true
    · rw [pathT, if_neg (by omega), if_pos h2]
      simp only [outB, Bool.or_eq_true, decide_eq_true_eq] at h2
      (refine fn_look s32_ok (by simp) (by intro k; simp only [go_sem, Nat.reduceEqDiff, ↓reduceIte, reduceCtorEq, Nat.reduceAdd, Nat.reduceMul, Int.reduceToNat, List.reduceReplicate, Nat.reduceLeDiff, Nat.reduceLT, Int.reduceLT, Int.reduceLE, Int.reduceEq]) fun S hS => cwp_sound _ _ _ _ ?_; simp (disch := omega) only [s32, go_sem, Nat.reduceEqDiff, ↓reduceIte, reduceCtorEq, Nat.reduceAdd, Nat.reduceMul, Int.reduceToNat, List.reduceReplicate, Nat.reduceLeDiff, Nat.reduceLT, Int.reduceLT, Int.reduceLE, Int.reduceEq])
      repeat' (first | with_reducible refine inw ?_ | simp (disch := omega) only [go_sem, Nat.reduceEqDiff, ↓reduceIte, reduceCtorEq, Nat.reduceAdd, Nat.reduceMul, Int.reduceToNat, List.reduceReplicate, Nat.reduceLeDiff, Nat.reduceLT, Int.reduceLT, Int.reduceLE, Int.reduceEq] | (with_reducible apply call (c1)); (focus simp (disch := omega) only [go_sem, Nat.reduceEqDiff, ↓reduceIte, reduceCtorEq, Nat.reduceAdd, Nat.reduceMul, Int.reduceToNat, List.reduceReplicate, Nat.reduceLeDiff, Nat.reduceLT, Int.reduceLT, Int.reduceLE, Int.reduceEq] <;> rfl) | with_reducible refine giv_intro fun _h => ?_ | with_reducible refine alt_intro ?_ fun _h => ?_ | with_reducible refine pickD_nil ?_ | (with_reducible refine brc (fun _h => ?_) fun _h => ?_) <;> first | (exfalso; omega) | simp only [decide_eq_false _h] | simp only [(_h : (_ : Bool) = _)] | simp only [decide_eq_true _h] | skip)
      all_goals first
        | rfl
        | (exfalso; omega)
    · rw [pathT, if_neg (by omega), if_neg h2]
      have hr1 := outB_no (by simpa using fun h => h2 (.inl h) : outB l i = false)
      have hr2 := outB_no (by simpa using fun h => h2 (.inr h) : outB l k = false)
      (refine fn_look s32_ok (by simp) (by intro k; simp only [go_sem, Nat.reduceEqDiff, ↓reduceIte, reduceCtorEq, Nat.reduceAdd, Nat.reduceMul, Int.reduceToNat, List.reduceReplicate, Nat.reduceLeDiff, Nat.reduceLT, Int.reduceLT, Int.reduceLE, Int.reduceEq]) fun S hS => cwp_sound _ _ _ _ ?_; simp (disch := omega) only [s32, go_sem, Nat.reduceEqDiff, ↓reduceIte, reduceCtorEq, Nat.reduceAdd, Nat.reduceMul, Int.reduceToNat, List.reduceReplicate, Nat.reduceLeDiff, Nat.reduceLT, Int.reduceLT, Int.reduceLE, Int.reduceEq])
      repeat' (first | with_reducible refine inw ?_ | simp (disch := omega) only [go_sem, Nat.reduceEqDiff, ↓reduceIte, reduceCtorEq, Nat.reduceAdd, Nat.reduceMul, Int.reduceToNat, List.reduceReplicate, Nat.reduceLeDiff, Nat.reduceLT, Int.reduceLT, Int.reduceLE, Int.reduceEq] | (with_reducible apply call (c1)); (focus simp (disch := omega) only [go_sem, Nat.reduceEqDiff, ↓reduceIte, reduceCtorEq, Nat.reduceAdd, Nat.reduceMul, Int.reduceToNat, List.reduceReplicate, Nat.reduceLeDiff, Nat.reduceLT, Int.reduceLT, Int.reduceLE, Int.reduceEq] <;> rfl) | with_reducible refine giv_intro fun _h => ?_ | with_reducible refine alt_intro ?_ fun _h => ?_ | with_reducible refine pickD_nil ?_ | (with_reducible refine brc (fun _h => ?_) fun _h => ?_) <;> first | (exfalso; omega) | simp only [decide_eq_false _h] | simp only [(_h : (_ : Bool) = _)] | simp only [decide_eq_true _h] | skip)
      refine nil_row 10 3 1 (by simp (disch := omega) only [go_sem, Nat.reduceEqDiff, ↓reduceIte, reduceCtorEq, Nat.reduceAdd, Nat.reduceMul, Int.reduceToNat, List.reduceReplicate, Nat.reduceLeDiff, Nat.reduceLT, Int.reduceLT, Int.reduceLE, Int.reduceEq]) ?_
      refine nil_row 11 3 1 (by simp (disch := omega) only [go_sem, Nat.reduceEqDiff, ↓reduceIte, reduceCtorEq, Nat.reduceAdd, Nat.reduceMul, Int.reduceToNat, List.reduceReplicate, Nat.reduceLeDiff, Nat.reduceLT, Int.reduceLT, Int.reduceLE, Int.reduceEq]) ?_
      (refine loopC hS [0, 2, 11] (by simp only [go_sem, Nat.reduceEqDiff, ↓reduceIte, reduceCtorEq, Nat.reduceAdd, Nat.reduceMul, Int.reduceToNat, List.reduceReplicate, Nat.reduceLeDiff, Nat.reduceLT, Int.reduceLT, Int.reduceLE, Int.reduceEq]; try rfl) (fun (⟨n, x, up⟩ : Nat × Int × List Int) => [(12, intA x), (10, own S 0 up)]) (fun (⟨n, x, up⟩ : Nat × Int × List Int) => [rowO 3 up, rowO 3 ([] : List Int)]) (fun (⟨n, x, up⟩ : Nat × Int × List Int) => 0 ≤ x ∧ x < l.length ∧ it l n x < 0 ∧ up.length + n ≤ l.length + 1 ∧ wayU l i k = (up ++ (upF l k n x).1, (upF l k n x).2)) (fun (⟨n, x, up⟩ : Nat × Int × List Int) => n) ((l.length + 1, i, [])) ?h07 ?hn7 ?rd7; case hn7 => (intro s; first | rfl | (rcases s with ⟨_, _⟩; rfl) | (rcases s with ⟨_, _, _⟩; rfl) | (rcases s with ⟨_, _, _, _⟩; rfl) | (rcases s with ⟨_, _, _, _, _⟩; rfl)))
      · exact ⟨⟨by omega, by omega, it_mono l (ends_len v2 v3 (by omega)) (by omega), by simp, rfl⟩, by simp (disch := omega) only [go_sem, Nat.reduceEqDiff, ↓reduceIte, reduceCtorEq, Nat.reduceAdd, Nat.reduceMul, Int.reduceToNat, List.reduceReplicate, Nat.reduceLeDiff, Nat.reduceLT, Int.reduceLT, Int.reduceLE, Int.reduceEq], by simp (disch := omega) only [go_sem, Nat.reduceEqDiff, ↓reduceIte, reduceCtorEq, Nat.reduceAdd, Nat.reduceMul, Int.reduceToNat, List.reduceReplicate, Nat.reduceLeDiff, Nat.reduceLT, Int.reduceLT, Int.reduceLE, Int.reduceEq]⟩
      rintro ⟨n, x, up⟩ ⟨hx0, hx1, hx2, hn, hI⟩
      replace hx0 : 0 ≤ x := hx0
      replace hx1 : x < l.length := hx1
      replace hx2 : it l n x < 0 := hx2
      replace hn : up.length + n ≤ l.length + 1 := hn
      replace hI : wayU l i k = (up ++ (upF l k n x).1, (upF l k n x).2) := hI
      have c2 := rHangs_ok l v2 (by omega) k x hr2.2
      by_cases hg : hgB l k x = true
      · rw [upF_stop (.inr hg), List.append_nil] at hI
        rw [hI, if_neg (by dsimp only; omega)]
        rw [hg] at c2
        have hkx := (hgB_iff v2 v3 hr2.2).1 hg
        dsimp only
        repeat' (first | with_reducible refine inw ?_ | simp (disch := omega) only [go_sem, Nat.reduceEqDiff, ↓reduceIte, reduceCtorEq, Nat.reduceAdd, Nat.reduceMul, Int.reduceToNat, List.reduceReplicate, Nat.reduceLeDiff, Nat.reduceLT, Int.reduceLT, Int.reduceLE, Int.reduceEq] | (with_reducible apply call (c2)); (focus simp (disch := omega) only [go_sem, Nat.reduceEqDiff, ↓reduceIte, reduceCtorEq, Nat.reduceAdd, Nat.reduceMul, Int.reduceToNat, List.reduceReplicate, Nat.reduceLeDiff, Nat.reduceLT, Int.reduceLT, Int.reduceLE, Int.reduceEq] <;> rfl) | with_reducible refine giv_intro fun _h => ?_ | with_reducible refine alt_intro ?_ fun _h => ?_ | with_reducible refine pickD_nil ?_ | (with_reducible refine brc (fun _h => ?_) fun _h => ?_) <;> first | (exfalso; omega) | simp only [decide_eq_false _h] | simp only [(_h : (_ : Bool) = _)] | simp only [decide_eq_true _h] | skip)
        (refine loopC hS [0, 10, 12] (by simp only [go_sem, Nat.reduceEqDiff, ↓reduceIte, reduceCtorEq, Nat.reduceAdd, Nat.reduceMul, Int.reduceToNat, List.reduceReplicate, Nat.reduceLeDiff, Nat.reduceLT, Int.reduceLT, Int.reduceLE, Int.reduceEq]; try rfl) (fun (⟨m, y, dn⟩ : Nat × Int × List Int) => [(2, intA y), (11, own S 1 dn)]) (fun (⟨m, y, dn⟩ : Nat × Int × List Int) => [rowO 3 up, rowO 3 dn]) (fun (⟨m, y, dn⟩ : Nat × Int × List Int) => 0 ≤ y ∧ y < l.length ∧ Hg l y x ∧ it l m y < 0 ∧ dn.length + m ≤ l.length + 1 ∧ wayD l x k = dn.reverse ++ downF l x m y) (fun (⟨m, y, dn⟩ : Nat × Int × List Int) => m) ((l.length + 1, k, [])) ?h08 ?hn8 ?rd8; case hn8 => (intro s; first | rfl | (rcases s with ⟨_, _⟩; rfl) | (rcases s with ⟨_, _, _⟩; rfl) | (rcases s with ⟨_, _, _, _⟩; rfl) | (rcases s with ⟨_, _, _, _, _⟩; rfl)))
        · exact ⟨⟨by omega, by omega, hkx, it_mono l (ends_len v2 v3 (by omega)) (by omega), by simp, rfl⟩, by simp (disch := omega) only [go_sem, Nat.reduceEqDiff, ↓reduceIte, reduceCtorEq, Nat.reduceAdd, Nat.reduceMul, Int.reduceToNat, List.reduceReplicate, Nat.reduceLeDiff, Nat.reduceLT, Int.reduceLT, Int.reduceLE, Int.reduceEq], by simp (disch := omega) only [go_sem, Nat.reduceEqDiff, ↓reduceIte, reduceCtorEq, Nat.reduceAdd, Nat.reduceMul, Int.reduceToNat, List.reduceReplicate, Nat.reduceLeDiff, Nat.reduceLT, Int.reduceLT, Int.reduceLE, Int.reduceEq]⟩
        rintro ⟨m, y, dn⟩ ⟨hy0, hy1, hyx, hy2, hm, hJ⟩
        replace hy0 : 0 ≤ y := hy0
        replace hy1 : y < l.length := hy1
        replace hyx : Hg l y x := hyx
        replace hy2 : it l m y < 0 := hy2
        replace hm : dn.length + m ≤ l.length + 1 := hm
        replace hJ : wayD l x k = dn.reverse ++ downF l x m y := hJ
        by_cases hy : y = x
        · subst hy
          rw [downF_stop, List.append_nil] at hJ
          rw [hJ, List.reverse_reverse]
          have lu : (up ++ [y]).length = up.length + 1 := by simp
          have lv : (up ++ [y] ++ dn).length = up.length + 1 + dn.length := by simp; omega
          have lw : up ++ [y] ++ dn = up ++ y :: dn := by simp
          repeat' (first | with_reducible refine inw ?_ | simp (disch := omega) only [go_sem, Nat.reduceEqDiff, ↓reduceIte, reduceCtorEq, Nat.reduceAdd, Nat.reduceMul, Int.reduceToNat, List.reduceReplicate, Nat.reduceLeDiff, Nat.reduceLT, Int.reduceLT, Int.reduceLE, Int.reduceEq, List.take_length, lu, lv] | with_reducible refine giv_intro fun _h => ?_ | with_reducible refine alt_intro ?_ fun _h => ?_ | with_reducible refine pickD_nil ?_ | (with_reducible refine brc (fun _h => ?_) fun _h => ?_) <;> first | (exfalso; omega) | simp only [decide_eq_false _h] | simp only [(_h : (_ : Bool) = _)] | simp only [decide_eq_true _h] | skip)
          rw [lw]
        · have hh := hd_nth (l := l) hy0
          cases m with
          | zero => exact absurd hy2 (by show ¬y < 0; omega)
          | succ m =>
            rw [downF, if_neg hy] at hJ
            have hst := (hg_step hy0 hy).1 hyx
            have hlt := hd_lt v2 hy1
            have h0 : 0 ≤ hd l y := by
              rcases Int.lt_or_le (hd l y) 0 with h | h
              · exact absurd hst (hg_neg h)
              · exact h
            refine swp_seq (in_seq ?_)
            repeat' (first | simp (disch := omega) only [go_sem, Nat.reduceEqDiff, ↓reduceIte, reduceCtorEq, Nat.reduceAdd, Nat.reduceMul, Int.reduceToNat, List.reduceReplicate, Nat.reduceLeDiff, Nat.reduceLT, Int.reduceLT, Int.reduceLE, Int.reduceEq] | with_reducible refine giv_intro fun _h => ?_ | with_reducible refine alt_intro ?_ fun _h => ?_ | with_reducible refine pickD_nil ?_ | (with_reducible refine brc (fun _h => ?_) fun _h => ?_) <;> first | (exfalso; omega) | simp only [decide_eq_false _h] | simp only [(_h : (_ : Bool) = _)] | simp only [decide_eq_true _h] | skip)
            refine swp_block (swp_seq (in_reg ?_))
            repeat' (first | simp (disch := omega) only [go_sem, Nat.reduceEqDiff, ↓reduceIte, reduceCtorEq, Nat.reduceAdd, Nat.reduceMul, Int.reduceToNat, List.reduceReplicate, Nat.reduceLeDiff, Nat.reduceLT, Int.reduceLT, Int.reduceLE, Int.reduceEq, List.take_length] | with_reducible refine giv_intro fun _h => ?_ | with_reducible refine alt_intro ?_ fun _h => ?_ | with_reducible refine pickD_nil ?_ | (with_reducible refine brc (fun _h => ?_) fun _h => ?_) <;> first | (exfalso; omega) | simp only [decide_eq_false _h] | simp only [(_h : (_ : Bool) = _)] | simp only [decide_eq_true _h] | skip)
            refine moveRow (tot := 1 + dn.length) (m := 1 + dn.length) 11 1 2 3 1 (by simp (disch := omega) only [go_sem, Nat.reduceEqDiff, ↓reduceIte, reduceCtorEq, Nat.reduceAdd, Nat.reduceMul, Int.reduceToNat, List.reduceReplicate, Nat.reduceLeDiff, Nat.reduceLT, Int.reduceLT, Int.reduceLE, Int.reduceEq]) rfl rfl (by simp) (by omega) ?_
            simp only [List.set_cons_zero, List.set_cons_succ]
            refine in_reg ?_
            repeat' (first | with_reducible refine inw ?_ | simp (disch := omega) only [go_sem, Nat.reduceEqDiff, ↓reduceIte, reduceCtorEq, Nat.reduceAdd, Nat.reduceMul, Int.reduceToNat, List.reduceReplicate, Nat.reduceLeDiff, Nat.reduceLT, Int.reduceLT, Int.reduceLE, Int.reduceEq, ← hh] | with_reducible refine giv_intro fun _h => ?_ | with_reducible refine alt_intro ?_ fun _h => ?_ | with_reducible refine pickD_nil ?_ | (with_reducible refine brc (fun _h => ?_) fun _h => ?_) <;> first | (exfalso; omega) | simp only [decide_eq_false _h] | simp only [(_h : (_ : Bool) = _)] | simp only [decide_eq_true _h] | skip)
            refine ⟨(m, hd l y, y :: dn), ?_⟩
            dsimp only
            exact ⟨⟨by omega, h0, hlt, hst, hy2, by simp; omega, by rw [hJ]; simp⟩, ⟨rfl, by simp; omega, by simp; omega⟩, rfl⟩
      · rw [show hgB l k x = false by simpa using hg] at c2
        have hh := hd_nth (l := l) (x := x) (by omega)
        cases n with
        | zero => exact absurd hx2 (by show ¬x < 0; omega)
        | succ n =>
          rw [upF, if_neg (by rw [not_or]; exact ⟨by omega, hg⟩)] at hI
          have hlt := hd_lt v2 hx1
          have hlo := hd_lo v2 hx1 (by omega)
          by_cases h5 : hd l x < 0
          · rw [upF_stop (.inl h5)] at hI
            rw [hI, if_pos h5]
            repeat' (first | with_reducible refine inw ?_ | simp (disch := omega) only [go_sem, Nat.reduceEqDiff, ↓reduceIte, reduceCtorEq, Nat.reduceAdd, Nat.reduceMul, Int.reduceToNat, List.reduceReplicate, Nat.reduceLeDiff, Nat.reduceLT, Int.reduceLT, Int.reduceLE, Int.reduceEq, ← hh] | (with_reducible apply call (c2)); (focus simp (disch := omega) only [go_sem, Nat.reduceEqDiff, ↓reduceIte, reduceCtorEq, Nat.reduceAdd, Nat.reduceMul, Int.reduceToNat, List.reduceReplicate, Nat.reduceLeDiff, Nat.reduceLT, Int.reduceLT, Int.reduceLE, Int.reduceEq, ← hh] <;> rfl) | with_reducible refine giv_intro fun _h => ?_ | with_reducible refine alt_intro ?_ fun _h => ?_ | with_reducible refine pickD_nil ?_ | (with_reducible refine brc (fun _h => ?_) fun _h => ?_) <;> first | (exfalso; omega) | simp only [decide_eq_false _h] | simp only [(_h : (_ : Bool) = _)] | simp only [decide_eq_true _h] | skip)
            all_goals rfl
          · repeat' (first | with_reducible refine inw ?_ | simp (disch := omega) only [go_sem, Nat.reduceEqDiff, ↓reduceIte, reduceCtorEq, Nat.reduceAdd, Nat.reduceMul, Int.reduceToNat, List.reduceReplicate, Nat.reduceLeDiff, Nat.reduceLT, Int.reduceLT, Int.reduceLE, Int.reduceEq, ← hh] | (with_reducible apply call (c2)); (focus simp (disch := omega) only [go_sem, Nat.reduceEqDiff, ↓reduceIte, reduceCtorEq, Nat.reduceAdd, Nat.reduceMul, Int.reduceToNat, List.reduceReplicate, Nat.reduceLeDiff, Nat.reduceLT, Int.reduceLT, Int.reduceLE, Int.reduceEq, ← hh] <;> rfl) | with_reducible refine giv_intro fun _h => ?_ | with_reducible refine alt_intro ?_ fun _h => ?_ | with_reducible refine pickD_nil ?_ | (with_reducible refine brc (fun _h => ?_) fun _h => ?_) <;> first | (exfalso; omega) | simp only [decide_eq_false _h] | simp only [(_h : (_ : Bool) = _)] | simp only [decide_eq_true _h] | skip)
            refine ⟨(n, hd l x, up ++ [x]), ?_⟩
            dsimp only
            exact ⟨⟨by omega, by omega, hlt, hx2, by simp; omega, by rw [hI]; simp⟩, ⟨rfl, by simp⟩, rfl⟩
  · rw [pathT, if_pos h1]
    (refine fn_look s32_ok (by simp) (by intro k; simp only [go_sem, Nat.reduceEqDiff, ↓reduceIte, reduceCtorEq, Nat.reduceAdd, Nat.reduceMul, Int.reduceToNat, List.reduceReplicate, Nat.reduceLeDiff, Nat.reduceLT, Int.reduceLT, Int.reduceLE, Int.reduceEq]) fun S hS => cwp_sound _ _ _ _ ?_; simp (disch := omega) only [s32, go_sem, Nat.reduceEqDiff, ↓reduceIte, reduceCtorEq, Nat.reduceAdd, Nat.reduceMul, Int.reduceToNat, List.reduceReplicate, Nat.reduceLeDiff, Nat.reduceLT, Int.reduceLT, Int.reduceLE, Int.reduceEq])
    repeat' (first | with_reducible refine inw ?_ | simp (disch := omega) only [go_sem, Nat.reduceEqDiff, ↓reduceIte, reduceCtorEq, Nat.reduceAdd, Nat.reduceMul, Int.reduceToNat, List.reduceReplicate, Nat.reduceLeDiff, Nat.reduceLT, Int.reduceLT, Int.reduceLE, Int.reduceEq] | (with_reducible apply call (c1)); (focus simp (disch := omega) only [go_sem, Nat.reduceEqDiff, ↓reduceIte, reduceCtorEq, Nat.reduceAdd, Nat.reduceMul, Int.reduceToNat, List.reduceReplicate, Nat.reduceLeDiff, Nat.reduceLT, Int.reduceLT, Int.reduceLE, Int.reduceEq] <;> rfl) | with_reducible refine giv_intro fun _h => ?_ | with_reducible refine alt_intro ?_ fun _h => ?_ | with_reducible refine pickD_nil ?_ | (with_reducible refine brc (fun _h => ?_) fun _h => ?_) <;> first | (exfalso; omega) | simp only [decide_eq_false _h] | simp only [(_h : (_ : Bool) = _)] | simp only [decide_eq_true _h] | skip)
    all_goals rfl
/-- ablaut/ablautlaw21.DependPaths: 3 parameters, 0 captured -/
def s8 : SC := .seq (.reg [o1 6 (.mv (cB false))])
  (.seq (.seq (.reg [o1 13 (.mv (.t 0)),
     o1 14 (.call (.f 12) [(.t 13)])])
    (.cond (.t 14) (.seq (.reg [o1 15 (.call (.f 14) []),
       o1 6 (.mv (.t 15))])
      (.ret)) (.skip)))
   (.seq (.reg [o1 17 (.mv (.t 0)),
     o1 18 (.mv (.t 1)),
     o1 19 (.mv (.t 2)),
     o1 20 (.call (.f 31) [(.t 17), (.t 18), (.t 19)]),
     o1 16 (.mv (.t 20)),
     o1 21 (.ext (.t 16) 0),
     o1 22 (.ext (.t 16) 1),
     o1 23 (.ext (.t 16) 2),
     o1 7 (.mv (.t 21)),
     o1 8 (.mv (.t 22)),
     o1 9 (.mv (.t 23))])
    (.seq (.reg [o1 25 (.mv (.t 0)),
      o1 26 (.mv (.t 1)),
      o1 27 (.mv (.t 2)),
      o1 28 (.call (.f 32) [(.t 25), (.t 26), (.t 27)]),
      o1 24 (.mv (.t 28)),
      o1 29 (.ext (.t 24) 0),
      o1 30 (.ext (.t 24) 1),
      o1 31 (.ext (.t 24) 2),
      o1 10 (.mv (.t 29)),
      o1 11 (.mv (.t 30)),
      o1 12 (.mv (.t 31))])
     (.seq (.reg [o1 32 (.mv (.t 7)),
       o1 33 (.mv (.t 10)),
       o1 34 (.call (.f 23) [(.t 32), (.t 33)]),
       o1 35 (.mv (.t 34)),
       oT 36 (.mv (.t 8)) 35,
       oT 37 (.mv (.t 11)) 35,
       oT 38 (.eq false .bool (.t 36) (.t 37)) 35,
       o1 39 (.pick (.t 35) (.t 38) (cB false)),
       o1 40 (.mv (.t 39)),
       oT 41 (.mv (.t 9)) 40,
       oT 42 (.mv (.t 12)) 40,
       oT 43 (.bin .eql (.t 41) (.t 42)) 40,
       o1 44 (.pick (.t 40) (.t 43) (cB false)),
       o1 45 (.mv (.t 44)),
       oT 46 (.call (.f 14) []) 45,
       o1 47 (.pick (.t 45) (.t 46) (cB false)),
       o1 6 (.mv (.t 47))])
      (.ret)))))
theorem s8_ok : lookF Try.prog 8 = some (s8, 48, [.tmp 6]) := by kernel_rfl
theorem DependPaths_ok (l : List Hung) (i k : Int) (hl : TH l) : Fn P 8 [sl l, intA i, intA k] (boolA true) := by
  by_cases h1 : overB l = false
  · have hs := over_sm hl h1
    have c1 := path_ok l hs i k
    have c2 := rPath_ok l hs i k
    have k0 := over_ok l
    rw [h1] at k0
    generalize pathT l i k = t at *
    (refine fn_look s8_ok (by simp) (by intro k; simp only [go_sem, Nat.reduceEqDiff, ↓reduceIte, reduceCtorEq, Nat.reduceAdd, Nat.reduceMul, Int.reduceToNat, List.reduceReplicate, Nat.reduceLeDiff, Nat.reduceLT, Int.reduceLT, Int.reduceLE, Int.reduceEq]) fun S hS => cwp_sound _ _ _ _ ?_; simp (disch := omega) only [s8, go_sem, Nat.reduceEqDiff, ↓reduceIte, reduceCtorEq, Nat.reduceAdd, Nat.reduceMul, Int.reduceToNat, List.reduceReplicate, Nat.reduceLeDiff, Nat.reduceLT, Int.reduceLT, Int.reduceLE, Int.reduceEq])
    repeat' (first | with_reducible refine inw ?_ | simp (disch := omega) only [go_sem, Nat.reduceEqDiff, ↓reduceIte, reduceCtorEq, Nat.reduceAdd, Nat.reduceMul, Int.reduceToNat, List.reduceReplicate, Nat.reduceLeDiff, Nat.reduceLT, Int.reduceLT, Int.reduceLE, Int.reduceEq] | (with_reducible apply call (k0)); (focus simp (disch := omega) only [go_sem, Nat.reduceEqDiff, ↓reduceIte, reduceCtorEq, Nat.reduceAdd, Nat.reduceMul, Int.reduceToNat, List.reduceReplicate, Nat.reduceLeDiff, Nat.reduceLT, Int.reduceLT, Int.reduceLE, Int.reduceEq] <;> rfl) | (with_reducible apply call (c1)); (focus simp (disch := omega) only [go_sem, Nat.reduceEqDiff, ↓reduceIte, reduceCtorEq, Nat.reduceAdd, Nat.reduceMul, Int.reduceToNat, List.reduceReplicate, Nat.reduceLeDiff, Nat.reduceLT, Int.reduceLT, Int.reduceLE, Int.reduceEq] <;> rfl) | (with_reducible apply call (c2)); (focus simp (disch := omega) only [go_sem, Nat.reduceEqDiff, ↓reduceIte, reduceCtorEq, Nat.reduceAdd, Nat.reduceMul, Int.reduceToNat, List.reduceReplicate, Nat.reduceLeDiff, Nat.reduceLT, Int.reduceLT, Int.reduceLE, Int.reduceEq] <;> rfl) | (with_reducible apply call (sameInts_ok _ _)); (focus simp (disch := omega) only [go_sem, Nat.reduceEqDiff, ↓reduceIte, reduceCtorEq, Nat.reduceAdd, Nat.reduceMul, Int.reduceToNat, List.reduceReplicate, Nat.reduceLeDiff, Nat.reduceLT, Int.reduceLT, Int.reduceLE, Int.reduceEq] <;> rfl) | (with_reducible apply call (known_ok)); (focus simp (disch := omega) only [go_sem, Nat.reduceEqDiff, ↓reduceIte, reduceCtorEq, Nat.reduceAdd, Nat.reduceMul, Int.reduceToNat, List.reduceReplicate, Nat.reduceLeDiff, Nat.reduceLT, Int.reduceLT, Int.reduceLE, Int.reduceEq] <;> rfl) | with_reducible refine giv_intro fun _h => ?_ | with_reducible refine alt_intro ?_ fun _h => ?_ | with_reducible refine pickD_nil ?_ | (with_reducible refine brc (fun _h => ?_) fun _h => ?_) <;> first | (exfalso; omega) | simp only [decide_eq_false _h] | simp only [(_h : (_ : Bool) = _)] | simp only [decide_eq_true _h] | skip)
  · have k0 := over_ok l
    rw [show overB l = true by simpa using h1] at k0
    (refine fn_look s8_ok (by simp) (by intro k; simp only [go_sem, Nat.reduceEqDiff, ↓reduceIte, reduceCtorEq, Nat.reduceAdd, Nat.reduceMul, Int.reduceToNat, List.reduceReplicate, Nat.reduceLeDiff, Nat.reduceLT, Int.reduceLT, Int.reduceLE, Int.reduceEq]) fun S hS => cwp_sound _ _ _ _ ?_; simp (disch := omega) only [s8, go_sem, Nat.reduceEqDiff, ↓reduceIte, reduceCtorEq, Nat.reduceAdd, Nat.reduceMul, Int.reduceToNat, List.reduceReplicate, Nat.reduceLeDiff, Nat.reduceLT, Int.reduceLT, Int.reduceLE, Int.reduceEq])
    repeat' (first | with_reducible refine inw ?_ | simp (disch := omega) only [go_sem, Nat.reduceEqDiff, ↓reduceIte, reduceCtorEq, Nat.reduceAdd, Nat.reduceMul, Int.reduceToNat, List.reduceReplicate, Nat.reduceLeDiff, Nat.reduceLT, Int.reduceLT, Int.reduceLE, Int.reduceEq] | (with_reducible apply call (k0)); (focus simp (disch := omega) only [go_sem, Nat.reduceEqDiff, ↓reduceIte, reduceCtorEq, Nat.reduceAdd, Nat.reduceMul, Int.reduceToNat, List.reduceReplicate, Nat.reduceLeDiff, Nat.reduceLT, Int.reduceLT, Int.reduceLE, Int.reduceEq] <;> rfl) | (with_reducible apply call (known_ok)); (focus simp (disch := omega) only [go_sem, Nat.reduceEqDiff, ↓reduceIte, reduceCtorEq, Nat.reduceAdd, Nat.reduceMul, Int.reduceToNat, List.reduceReplicate, Nat.reduceLeDiff, Nat.reduceLT, Int.reduceLT, Int.reduceLE, Int.reduceEq] <;> rfl) | with_reducible refine giv_intro fun _h => ?_ | with_reducible refine alt_intro ?_ fun _h => ?_ | with_reducible refine pickD_nil ?_ | (with_reducible refine brc (fun _h => ?_) fun _h => ?_) <;> first | (exfalso; omega) | simp only [decide_eq_false _h] | simp only [(_h : (_ : Bool) = _)] | simp only [decide_eq_true _h] | skip)
end Go.Proofs.Ytkedbkdbnmmkhaa.Ev

/- Lessons as they must be. -/
import Derived.Test.YtapgimibdamjoaaZFnNb
set_option linter.unusedVariables false
set_option linter.unusedSimpArgs false
namespace Go.Proofs.Ytapgimibdamjoaa.Ev
open Go Go.Proofs

/-- slices.Grow[[]string,string]: 2 parameters, 0 captured; NO [region 2 slices.go:424 panic] -/
def s65 : SC := .seq (.reg [o1 4 (.mv (.c (.slice none 0 0)))])
  (.seq (.seq (.reg [o1 5 (.mv (.t 1)),
     o1 6 (.bin .lss (.t 5) (cI 0))])
    (.cond (.t 6) (.reg [o1 7 (.mkif 9 (.c (.string ⟨#[99, 97, 110, 110, 111, 116, 32, 98, 101, 32, 110, 101, 103, 97, 116, 105, 118, 101]⟩))),
      o0 (.no)]) (.skip)))
   (.seq (.seq (.reg [o1 8 (.mv (.t 1)),
      o1 9 (.mv (.t 0)),
      o1 10 (.capL (.t 9)),
      o1 11 (.mv (.t 0)),
      o1 12 (.lenL (.t 11)),
      o1 13 (.bin .sub (.t 10) (.t 12)),
      o1 14 (.bin .sub (.t 8) (.t 13)),
      o1 1 (.mv (.t 14))])
     (.seq (.reg [o1 15 (.mv (.t 1)),
       o1 16 (.bin .gtr (.t 15) (cI 0))])
      (.cond (.t 16) (.reg [o1 17 (.mv (.t 0)),
        o1 18 (.mv (.t 0)),
        o1 19 (.capL (.t 18)),
        o1 20 (.sl 1 (.t 17) none (some (.t 19))),
        o1 21 (.mv (.t 1)),
        o1 22 (.appZ 9 1 16 [(.string ⟨#[]⟩)] (.t 20) (.t 21)),
        o1 23 (.mv (.t 0)),
        o1 24 (.lenL (.t 23)),
        o1 25 (.sl 1 (.t 22) none (some (.t 24))),
        o1 0 (.mv (.t 25))]) (.skip))))
    (.seq (.reg [o1 26 (.mv (.t 0)),
      o1 4 (.mv (.t 26))])
     (.ret))))
theorem s65_ok : lookF Try.prog 65 = some (s65, 27, [.tmp 4]) := by kernel_rfl
theorem growS_ok (n : Nat) (h : 0 < n) (hn : n ≤ 8796093022208) : FnS P 65 [nilA, intA n] (fun S L r => ∃ L1, L = [some (Ob.row 9 1 (cellsL (List.replicate n (⟨#[]⟩ : Str))))] ∧ r = AV.ref (S.nm 0) n 0 0 ∧ L1 = L) := by
  have e : ((n : Int) - (0 - 0)).toNat = n := by omega
  (refine fnS_look s65_ok (by simp) fun S hS => cwp_sound _ _ _ _ ?_; simp (maxSteps := 900000) (disch := omega) only [s65, go_sem, Nat.reduceEqDiff, ↓reduceIte, reduceCtorEq, Nat.reduceAdd, Nat.reduceMul, Int.reduceToNat, List.reduceReplicate, Nat.reduceLeDiff, Nat.reduceLT, Int.reduceLT, Int.reduceLE, Int.reduceEq])
  repeat' (first | with_reducible refine inw ?_ | simp (maxSteps := 900000) (disch := omega) only [go_sem, Nat.reduceEqDiff, ↓reduceIte, reduceCtorEq, Nat.reduceAdd, Nat.reduceMul, Int.reduceToNat, List.reduceReplicate, Nat.reduceLeDiff, Nat.reduceLT, Int.reduceLT, Int.reduceLE, Int.reduceEq, e] | with_reducible refine giv_intro fun _h => ?_ | with_reducible refine alt_intro ?_ fun _h => ?_ | with_reducible refine pickD_nil ?_ | (with_reducible refine brc (fun _h => ?_) fun _h => ?_) <;> first | (exfalso; omega) | simp only [decide_eq_false _h] | simp only [(_h : (_ : Bool) = _)] | simp only [decide_eq_true _h] | skip)
  exact ⟨_, rfl⟩
theorem growS_nil : FnS P 65 [nilA, intA 0] (fun S L r => L = [] ∧ r = nilA) := by
  (refine fnS_look s65_ok (by simp) fun S hS => cwp_sound _ _ _ _ ?_; simp (maxSteps := 900000) (disch := omega) only [s65, go_sem, Nat.reduceEqDiff, ↓reduceIte, reduceCtorEq, Nat.reduceAdd, Nat.reduceMul, Int.reduceToNat, List.reduceReplicate, Nat.reduceLeDiff, Nat.reduceLT, Int.reduceLT, Int.reduceLE, Int.reduceEq])
  repeat' (first | with_reducible refine inw ?_ | simp (maxSteps := 900000) (disch := omega) only [go_sem, Nat.reduceEqDiff, ↓reduceIte, reduceCtorEq, Nat.reduceAdd, Nat.reduceMul, Int.reduceToNat, List.reduceReplicate, Nat.reduceLeDiff, Nat.reduceLT, Int.reduceLT, Int.reduceLE, Int.reduceEq] | with_reducible refine giv_intro fun _h => ?_ | with_reducible refine alt_intro ?_ fun _h => ?_ | with_reducible refine pickD_nil ?_ | (with_reducible refine brc (fun _h => ?_) fun _h => ?_) <;> first | (exfalso; omega) | simp only [decide_eq_false _h] | simp only [(_h : (_ : Bool) = _)] | simp only [decide_eq_true _h] | skip)
/-- slices.Clone[[]string,string]: 1 parameters, 0 captured -/
def s75 : SC := .seq (.reg [o1 2 (.mv (.c (.slice none 0 0)))])
  (.seq (.seq (.reg [o1 3 (.mv (.t 0)),
     o1 4 (.eq false .slice (.t 3) (.c (.slice none 0 0)))])
    (.cond (.t 4) (.seq (.reg [o1 2 (.mv (.c (.slice none 0 0)))])
      (.ret)) (.skip)))
   (.seq (.reg [o1 5 (.buildSl 9 1 0 [(.string ⟨#[]⟩)] []),
     o1 6 (.mv (.t 0)),
     o1 7 (.app 9 1 16 (.t 5) (.t 6)),
     o1 2 (.mv (.t 7))])
    (.ret)))
theorem s75_ok : lookF Try.prog 75 = some (s75, 8, [.tmp 2]) := by kernel_rfl
theorem cloneS_ok (l : List Str) (hl : l.length ≤ 8796093022208) : Fn P 75 [sl l] (sl l) := by
  (refine fn_look s75_ok (by simp) (by intro k; simp only [go_sem, Nat.reduceEqDiff, ↓reduceIte, reduceCtorEq, Nat.reduceAdd, Nat.reduceMul, Int.reduceToNat, List.reduceReplicate, Nat.reduceLeDiff, Nat.reduceLT, Int.reduceLT, Int.reduceLE, Int.reduceEq]) fun S hS => cwp_sound _ _ _ _ ?_; simp (maxSteps := 900000) (disch := omega) only [s75, go_sem, Nat.reduceEqDiff, ↓reduceIte, reduceCtorEq, Nat.reduceAdd, Nat.reduceMul, Int.reduceToNat, List.reduceReplicate, Nat.reduceLeDiff, Nat.reduceLT, Int.reduceLT, Int.reduceLE, Int.reduceEq])
  repeat' (first | with_reducible refine inw ?_ | simp (maxSteps := 900000) (disch := omega) only [go_sem, Nat.reduceEqDiff, ↓reduceIte, reduceCtorEq, Nat.reduceAdd, Nat.reduceMul, Int.reduceToNat, List.reduceReplicate, Nat.reduceLeDiff, Nat.reduceLT, Int.reduceLT, Int.reduceLE, Int.reduceEq] | with_reducible refine giv_intro fun _h => ?_ | with_reducible refine alt_intro ?_ fun _h => ?_ | with_reducible refine pickD_nil ?_ | (with_reducible refine brc (fun _h => ?_) fun _h => ?_) <;> first | (exfalso; omega) | simp only [decide_eq_false _h] | simp only [(_h : (_ : Bool) = _)] | simp only [decide_eq_true _h] | skip)
  rw [List.eq_nil_of_length_eq_zero _h]; rfl
theorem flat_step {α : Type} {k : Nat} [Enc α k] {ls : List (List α)} {i : Nat} (h : i < ls.length) : (ls.take (i + 1)).flatten = (ls.take i).flatten ++ nth ls i := by
  rw [List.take_add_one, nth_get? h]; simp
theorem flat_le {α : Type} (ls : List (List α)) (i : Nat) : ((ls.take i).flatten).length ≤ ls.flatten.length := by
  have : ls.flatten = (ls.take i).flatten ++ (ls.drop i).flatten := by rw [← List.flatten_append, List.take_append_drop]
  rw [this]; simp
/-- slices.Concat[[]string,string]: 1 parameters, 0 captured; NO [region 7 slices.go:496 panic] -/
def s42 : SC := .seq (.reg [o1 2 (.mv (.c (.slice none 0 0)))])
  (.seq (.reg [o1 3 (.mv (cI 0))])
   (.seq (.seq (.reg [o1 9 (.mv (.t 0)),
      o1 10 (.lenL (.t 9)),
      o1 11 (.mv (cI 0))])
     (.block 0 (.loop (.seq (.reg [o1 12 (.bin .lss (.t 11) (.t 10))])
        (.seq (.cond (.t 12) (.skip) (.exit 0))
         (.seq (.block 1 (.seq (.reg [o1 13 (.iaddr 1 (.t 9) (.t 11)),
             o1 14 (.load none (.t 13)),
             o1 5 (.mv (.t 14))])
            (.seq (.reg [o1 15 (.mv (.t 3)),
              o1 16 (.mv (.t 5)),
              o1 17 (.lenL (.t 16)),
              o1 18 (.bin .add (.t 15) (.t 17)),
              o1 3 (.mv (.t 18))])
             (.seq (.reg [o1 19 (.mv (.t 3)),
               o1 20 (.bin .lss (.t 19) (cI 0))])
              (.cond (.t 20) (.reg [o1 21 (.mkif 9 (.c (.string ⟨#[108, 101, 110, 32, 111, 117, 116, 32, 111, 102, 32, 114, 97, 110, 103, 101]⟩))),
                o0 (.no)]) (.skip))))))
          (.reg [o1 22 (.bin .add (.t 11) (cI 1)),
           o1 11 (.mv (.t 22))])))))))
    (.seq (.reg [o1 23 (.mv (.t 3)),
      o1 24 (.call (.f 65) [(.c (.slice none 0 0)), (.t 23)]),
      o1 6 (.mv (.t 24))])
     (.seq (.seq (.reg [o1 25 (.mv (.t 0)),
        o1 26 (.lenL (.t 25)),
        o1 27 (.mv (cI 0))])
       (.block 2 (.loop (.seq (.reg [o1 28 (.bin .lss (.t 27) (.t 26))])
          (.seq (.cond (.t 28) (.skip) (.exit 2))
           (.seq (.block 3 (.seq (.reg [o1 29 (.iaddr 1 (.t 25) (.t 27)),
               o1 30 (.load none (.t 29)),
               o1 8 (.mv (.t 30))])
              (.reg [o1 31 (.mv (.t 6)),
               o1 32 (.mv (.t 8)),
               o1 33 (.app 9 1 16 (.t 31) (.t 32)),
               o1 6 (.mv (.t 33))])))
            (.reg [o1 34 (.bin .add (.t 27) (cI 1)),
             o1 27 (.mv (.t 34))])))))))
      (.seq (.reg [o1 35 (.mv (.t 6)),
        o1 2 (.mv (.t 35))])
       (.ret))))))
theorem s42_ok : lookF Try.prog 42 = some (s42, 36, [.tmp 2]) := by kernel_rfl
theorem concatS_ok (ls : List (List Str)) (hl : ls.length ≤ 8796093022208) (hn : ls.flatten.length ≤ 8796093022208) : Fn P 42 [sl ls] (sl ls.flatten) := by
  (refine fn_look s42_ok (by simp) (by intro k; simp only [go_sem, Nat.reduceEqDiff, ↓reduceIte, reduceCtorEq, Nat.reduceAdd, Nat.reduceMul, Int.reduceToNat, List.reduceReplicate, Nat.reduceLeDiff, Nat.reduceLT, Int.reduceLT, Int.reduceLE, Int.reduceEq]) fun S hS => cwp_sound _ _ _ _ ?_; simp (maxSteps := 900000) (disch := omega) only [s42, go_sem, Nat.reduceEqDiff, ↓reduceIte, reduceCtorEq, Nat.reduceAdd, Nat.reduceMul, Int.reduceToNat, List.reduceReplicate, Nat.reduceLeDiff, Nat.reduceLT, Int.reduceLT, Int.reduceLE, Int.reduceEq])
  repeat' (first | with_reducible refine inw ?_ | simp (maxSteps := 900000) (disch := omega) only [go_sem, Nat.reduceEqDiff, ↓reduceIte, reduceCtorEq, Nat.reduceAdd, Nat.reduceMul, Int.reduceToNat, List.reduceReplicate, Nat.reduceLeDiff, Nat.reduceLT, Int.reduceLT, Int.reduceLE, Int.reduceEq] | with_reducible refine giv_intro fun _h => ?_ | with_reducible refine alt_intro ?_ fun _h => ?_ | with_reducible refine pickD_nil ?_ | (with_reducible refine brc (fun _h => ?_) fun _h => ?_) <;> first | (exfalso; omega) | simp only [decide_eq_false _h] | simp only [(_h : (_ : Bool) = _)] | simp only [decide_eq_true _h] | skip)
  (refine loopC hS [0, 9, 10] (by simp only [go_sem, Nat.reduceEqDiff, ↓reduceIte, reduceCtorEq, Nat.reduceAdd, Nat.reduceMul, Int.reduceToNat, List.reduceReplicate, Nat.reduceLeDiff, Nat.reduceLT, Int.reduceLT, Int.reduceLE, Int.reduceEq]; try rfl) (fun (i : Nat) => [(3, intA (((ls.take i).flatten).length : Nat)), (11, intA i)]) (fun (i : Nat) => []) (fun (i : Nat) => i ≤ ls.length) (fun (i : Nat) => ls.length - i) (0) ?h01 ?hn1 ?rd1; case hn1 => (intro s; first | rfl | (rcases s with ⟨_, _⟩; rfl) | (rcases s with ⟨_, _, _⟩; rfl) | (rcases s with ⟨_, _, _, _⟩; rfl) | (rcases s with ⟨_, _, _, _, _⟩; rfl)))
  · simp (maxSteps := 900000) (disch := omega) only [go_sem, Nat.reduceEqDiff, ↓reduceIte, reduceCtorEq, Nat.reduceAdd, Nat.reduceMul, Int.reduceToNat, List.reduceReplicate, Nat.reduceLeDiff, Nat.reduceLT, Int.reduceLT, Int.reduceLE, Int.reduceEq]; simp
  · rintro i hi
    replace hi : i ≤ ls.length := hi
    have b1 := flat_le ls i
    have b2 := flat_le ls (i + 1)
    by_cases hil : i < ls.length
    · rw [flat_step hil] at b2
      simp only [List.length_append] at b2
      repeat' (first | with_reducible refine inw ?_ | simp (maxSteps := 900000) (disch := omega) only [go_sem, Nat.reduceEqDiff, ↓reduceIte, reduceCtorEq, Nat.reduceAdd, Nat.reduceMul, Int.reduceToNat, List.reduceReplicate, Nat.reduceLeDiff, Nat.reduceLT, Int.reduceLT, Int.reduceLE, Int.reduceEq] | with_reducible refine giv_intro fun _h => ?_ | with_reducible refine alt_intro ?_ fun _h => ?_ | with_reducible refine pickD_nil ?_ | (with_reducible refine brc (fun _h => ?_) fun _h => ?_) <;> first | (exfalso; omega) | simp only [decide_eq_false _h] | simp only [(_h : (_ : Bool) = _)] | simp only [decide_eq_true _h] | skip)
      refine ⟨i + 1, ⟨by omega, by omega⟩, ?_⟩
      rw [flat_step hil]; simp
    · have hl2 : ls.take i = ls := List.take_of_length_le (by omega)
      rw [hl2]
      rcases Nat.eq_zero_or_pos ls.flatten.length with h0 | h0
      · rw [h0]
        have hz : ∀ j, j < ls.length → (nth ls j).length = 0 := fun j hj => by
          have := flat_le ls (j + 1)
          rw [flat_step hj, List.length_append] at this; omega
        repeat' (first | with_reducible refine inw ?_ | simp (maxSteps := 900000) (disch := omega) only [go_sem, Nat.reduceEqDiff, ↓reduceIte, reduceCtorEq, Nat.reduceAdd, Nat.reduceMul, Int.reduceToNat, List.reduceReplicate, Nat.reduceLeDiff, Nat.reduceLT, Int.reduceLT, Int.reduceLE, Int.reduceEq] | with_reducible refine giv_intro fun _h => ?_ | with_reducible refine alt_intro ?_ fun _h => ?_ | with_reducible refine pickD_nil ?_ | (with_reducible refine brc (fun _h => ?_) fun _h => ?_) <;> first | (exfalso; omega) | simp only [decide_eq_false _h] | simp only [(_h : (_ : Bool) = _)] | simp only [decide_eq_true _h] | skip)
        refine callN growS_nil rfl ?_
        rintro L' r ⟨rfl, rfl⟩
        repeat' (first | with_reducible refine inw ?_ | simp (maxSteps := 900000) (disch := omega) only [go_sem, Nat.reduceEqDiff, ↓reduceIte, reduceCtorEq, Nat.reduceAdd, Nat.reduceMul, Int.reduceToNat, List.reduceReplicate, Nat.reduceLeDiff, Nat.reduceLT, Int.reduceLT, Int.reduceLE, Int.reduceEq] | with_reducible refine giv_intro fun _h => ?_ | with_reducible refine alt_intro ?_ fun _h => ?_ | with_reducible refine pickD_nil ?_ | (with_reducible refine brc (fun _h => ?_) fun _h => ?_) <;> first | (exfalso; omega) | simp only [decide_eq_false _h] | simp only [(_h : (_ : Bool) = _)] | simp only [decide_eq_true _h] | skip)
        (refine loopC hS [25, 26] (by simp only [go_sem, Nat.reduceEqDiff, ↓reduceIte, reduceCtorEq, Nat.reduceAdd, Nat.reduceMul, Int.reduceToNat, List.reduceReplicate, Nat.reduceLeDiff, Nat.reduceLT, Int.reduceLT, Int.reduceLE, Int.reduceEq]; try rfl) (fun (i : Nat) => [(6, nilA), (27, intA i)]) (fun (i : Nat) => []) (fun (i : Nat) => i ≤ ls.length) (fun (i : Nat) => ls.length - i) (0) ?h02 ?hn2 ?rd2; case hn2 => (intro s; first | rfl | (rcases s with ⟨_, _⟩; rfl) | (rcases s with ⟨_, _, _⟩; rfl) | (rcases s with ⟨_, _, _, _⟩; rfl) | (rcases s with ⟨_, _, _, _, _⟩; rfl)))
        · simp (maxSteps := 900000) (disch := omega) only [go_sem, Nat.reduceEqDiff, ↓reduceIte, reduceCtorEq, Nat.reduceAdd, Nat.reduceMul, Int.reduceToNat, List.reduceReplicate, Nat.reduceLeDiff, Nat.reduceLT, Int.reduceLT, Int.reduceLE, Int.reduceEq]; simp
        · rintro i hi
          replace hi : i ≤ ls.length := hi
          by_cases hil : i < ls.length
          · have := hz i hil
            repeat' (first | with_reducible refine inw ?_ | simp (maxSteps := 900000) (disch := omega) only [go_sem, Nat.reduceEqDiff, ↓reduceIte, reduceCtorEq, Nat.reduceAdd, Nat.reduceMul, Int.reduceToNat, List.reduceReplicate, Nat.reduceLeDiff, Nat.reduceLT, Int.reduceLT, Int.reduceLE, Int.reduceEq] | with_reducible refine giv_intro fun _h => ?_ | with_reducible refine alt_intro ?_ fun _h => ?_ | with_reducible refine pickD_nil ?_ | (with_reducible refine brc (fun _h => ?_) fun _h => ?_) <;> first | (exfalso; omega) | simp only [decide_eq_false _h] | simp only [(_h : (_ : Bool) = _)] | simp only [decide_eq_true _h] | skip)
            exact ⟨i + 1, ⟨by omega, by omega⟩, by omega⟩
          · repeat' (first | with_reducible refine inw ?_ | simp (maxSteps := 900000) (disch := omega) only [go_sem, Nat.reduceEqDiff, ↓reduceIte, reduceCtorEq, Nat.reduceAdd, Nat.reduceMul, Int.reduceToNat, List.reduceReplicate, Nat.reduceLeDiff, Nat.reduceLT, Int.reduceLT, Int.reduceLE, Int.reduceEq] | with_reducible refine giv_intro fun _h => ?_ | with_reducible refine alt_intro ?_ fun _h => ?_ | with_reducible refine pickD_nil ?_ | (with_reducible refine brc (fun _h => ?_) fun _h => ?_) <;> first | (exfalso; omega) | simp only [decide_eq_false _h] | simp only [(_h : (_ : Bool) = _)] | simp only [decide_eq_true _h] | skip)
            rw [List.eq_nil_of_length_eq_zero h0]; rfl
      · repeat' (first | with_reducible refine inw ?_ | simp (maxSteps := 900000) (disch := omega) only [go_sem, Nat.reduceEqDiff, ↓reduceIte, reduceCtorEq, Nat.reduceAdd, Nat.reduceMul, Int.reduceToNat, List.reduceReplicate, Nat.reduceLeDiff, Nat.reduceLT, Int.reduceLT, Int.reduceLE, Int.reduceEq] | with_reducible refine giv_intro fun _h => ?_ | with_reducible refine alt_intro ?_ fun _h => ?_ | with_reducible refine pickD_nil ?_ | (with_reducible refine brc (fun _h => ?_) fun _h => ?_) <;> first | (exfalso; omega) | simp only [decide_eq_false _h] | simp only [(_h : (_ : Bool) = _)] | simp only [decide_eq_true _h] | skip)
        refine callN (growS_ok ls.flatten.length h0 hn) rfl ?_
        rintro L' r ⟨L1, rfl, rfl, _⟩
        simp only [nm_stk, List.nil_append, List.length_nil, Nat.zero_add]
        repeat' (first | with_reducible refine inw ?_ | simp (maxSteps := 900000) (disch := omega) only [go_sem, Nat.reduceEqDiff, ↓reduceIte, reduceCtorEq, Nat.reduceAdd, Nat.reduceMul, Int.reduceToNat, List.reduceReplicate, Nat.reduceLeDiff, Nat.reduceLT, Int.reduceLT, Int.reduceLE, Int.reduceEq] | with_reducible refine giv_intro fun _h => ?_ | with_reducible refine alt_intro ?_ fun _h => ?_ | with_reducible refine pickD_nil ?_ | (with_reducible refine brc (fun _h => ?_) fun _h => ?_) <;> first | (exfalso; omega) | simp only [decide_eq_false _h] | simp only [(_h : (_ : Bool) = _)] | simp only [decide_eq_true _h] | skip)
        (refine loopC hS [25, 26] (by simp only [go_sem, Nat.reduceEqDiff, ↓reduceIte, reduceCtorEq, Nat.reduceAdd, Nat.reduceMul, Int.reduceToNat, List.reduceReplicate, Nat.reduceLeDiff, Nat.reduceLT, Int.reduceLT, Int.reduceLE, Int.reduceEq]; try rfl) (fun (⟨i, full⟩ : Nat × List Str) => [(6, .ref (S.nm 0) ls.flatten.length 0 ((ls.take i).flatten).length), (27, intA i)]) (fun (⟨i, full⟩ : Nat × List Str) => [rowO 9 full]) (fun (⟨i, full⟩ : Nat × List Str) => i ≤ ls.length ∧ full.length = ls.flatten.length ∧ full.take ((ls.take i).flatten).length = (ls.take i).flatten) (fun (⟨i, full⟩ : Nat × List Str) => ls.length - i) ((0, List.replicate ls.flatten.length ⟨#[]⟩)) ?h03 ?hn3 ?rd3; case hn3 => (intro s; first | rfl | (rcases s with ⟨_, _⟩; rfl) | (rcases s with ⟨_, _, _⟩; rfl) | (rcases s with ⟨_, _, _, _⟩; rfl) | (rcases s with ⟨_, _, _, _, _⟩; rfl)))
        · simp (maxSteps := 900000) (disch := omega) only [go_sem, Nat.reduceEqDiff, ↓reduceIte, reduceCtorEq, Nat.reduceAdd, Nat.reduceMul, Int.reduceToNat, List.reduceReplicate, Nat.reduceLeDiff, Nat.reduceLT, Int.reduceLT, Int.reduceLE, Int.reduceEq]; simp
        · rintro ⟨i, full⟩ ⟨hi, hf, ht⟩
          replace hi : i ≤ ls.length := hi
          replace hf : full.length = ls.flatten.length := hf
          replace ht : full.take ((ls.take i).flatten).length = (ls.take i).flatten := ht
          by_cases hil : i < ls.length
          · have b3 := flat_le ls (i + 1)
            rw [flat_step hil, List.length_append] at b3
            repeat' (first | with_reducible refine inw ?_ | simp (maxSteps := 900000) (disch := omega) only [go_sem, Nat.reduceEqDiff, ↓reduceIte, reduceCtorEq, Nat.reduceAdd, Nat.reduceMul, Int.reduceToNat, List.reduceReplicate, Nat.reduceLeDiff, Nat.reduceLT, Int.reduceLT, Int.reduceLE, Int.reduceEq, ax_room] | with_reducible refine giv_intro fun _h => ?_ | with_reducible refine alt_intro ?_ fun _h => ?_ | with_reducible refine pickD_nil ?_ | (with_reducible refine brc (fun _h => ?_) fun _h => ?_) <;> first | (exfalso; omega) | simp only [decide_eq_false _h] | simp only [(_h : (_ : Bool) = _)] | simp only [decide_eq_true _h] | skip)
            refine ⟨(i + 1, full.take ((ls.take i).flatten).length ++ nth ls i ++ full.drop (((ls.take i).flatten).length + (nth ls i).length)), ?_⟩
            dsimp only
            have e1 : (full.take ((ls.take i).flatten).length).length = ((ls.take i).flatten).length := by rw [ht]
            refine ⟨⟨by omega, by omega, ?_, ?_⟩, ⟨?_, by omega⟩, rfl⟩
            · simp only [List.length_append, List.length_drop, e1]; omega
            · rw [flat_step hil, ht, List.take_left' (by simp)]
            · rw [flat_step hil, List.length_append]
          · have hl3 : ls.take i = ls := List.take_of_length_le (by omega)
            rw [hl3] at ht
            have hf2 : full = ls.flatten := by rw [← ht, List.take_of_length_le (by omega)]
            subst hf2
            repeat' (first | with_reducible refine inw ?_ | simp (maxSteps := 900000) (disch := omega) only [go_sem, Nat.reduceEqDiff, ↓reduceIte, reduceCtorEq, Nat.reduceAdd, Nat.reduceMul, Int.reduceToNat, List.reduceReplicate, Nat.reduceLeDiff, Nat.reduceLT, Int.reduceLT, Int.reduceLE, Int.reduceEq, hl3] | with_reducible refine giv_intro fun _h => ?_ | with_reducible refine alt_intro ?_ fun _h => ?_ | with_reducible refine pickD_nil ?_ | (with_reducible refine brc (fun _h => ?_) fun _h => ?_) <;> first | (exfalso; omega) | simp only [decide_eq_false _h] | simp only [(_h : (_ : Bool) = _)] | simp only [decide_eq_true _h] | skip)

def longL (x : Lesson) : Bool := decide (200 < x.1.length) || x.1.any fun s => decide (400 < s.size)
def fitL (x : Lesson) : Bool := decide (x.1.length = x.2.1.length) && decide (x.1.length = x.2.2.length)
def nmL (x : Lesson) : Bool := x.2.1.all nameB && x.2.2.all nameB
def valL (l : List Lesson) : Int := if 200 < l.length then 3 else if l.any longL = true then 3 else if l.all fitL = true then (if l.all nmL = true then 0 else 1) else 10
abbrev SmL (x : Lesson) : Prop := (∀ s ∈ x.1, s.size ≤ 4611686018427387904) ∧ (∀ s ∈ x.2.1, s.size ≤ 4611686018427387904) ∧ (∀ s ∈ x.2.2, s.size ≤ 4611686018427387904)
theorem nm_app (x : Lesson) : nmL x = ([x.2.1, x.2.2].flatten).all nameB := by simp [nmL]
/-- ablaut/learn.ValidateLessons: 1 parameters, 0 captured -/
def s15 : SC := .seq (.reg [o1 2 (.mv (cI 0))])
  (.seq (.seq (.reg [o1 11 (.mv (.t 0)),
     o1 12 (.lenL (.t 11)),
     o1 13 (.bin .gtr (.t 12) (cI 200))])
    (.cond (.t 13) (.seq (.reg [o1 2 (.mv (cI 3))])
      (.ret)) (.skip)))
   (.seq (.seq (.reg [o1 14 (.mv (.t 0)),
      o1 15 (.lenL (.t 14)),
      o1 16 (.mv (cI 0))])
     (.block 0 (.loop (.seq (.reg [o1 17 (.bin .lss (.t 16) (.t 15))])
        (.seq (.cond (.t 17) (.skip) (.exit 0))
         (.seq (.block 1 (.seq (.reg [o1 18 (.iaddr 3 (.t 14) (.t 16)),
             o1 19 (.load (some 3) (.t 18)),
             o1 4 (.alloc 56 3 [(.slice none 0 0), (.slice none 0 0), (.slice none 0 0)]),
             o0 (.store 3 (.t 4) (.t 19))])
            (.seq (.reg [o1 20 (.faddr 0 (.t 4)),
              o1 21 (.load none (.t 20)),
              o1 22 (.lenL (.t 21)),
              o1 23 (.bin .gtr (.t 22) (cI 200)),
              o1 24 (.mv (.t 23)),
              oF 25 (.faddr 0 (.t 4)) 24,
              oF 26 (.load none (.t 25)) 24,
              oF 27 (.call (.f 40) [(.t 26), (.f 41)]) 24,
              o1 28 (.pick (.t 24) (cB true) (.t 27))])
             (.cond (.t 28) (.seq (.reg [o1 2 (.mv (cI 3))])
               (.ret)) (.skip)))))
          (.reg [o1 29 (.bin .add (.t 16) (cI 1)),
           o1 16 (.mv (.t 29))])))))))
    (.seq (.seq (.reg [o1 30 (.mv (.t 0)),
       o1 31 (.lenL (.t 30)),
       o1 32 (.mv (cI 0))])
      (.block 2 (.loop (.seq (.reg [o1 33 (.bin .lss (.t 32) (.t 31))])
         (.seq (.cond (.t 33) (.skip) (.exit 2))
          (.seq (.block 3 (.seq (.reg [o1 34 (.iaddr 3 (.t 30) (.t 32)),
              o1 35 (.load (some 3) (.t 34)),
              o1 6 (.alloc 56 3 [(.slice none 0 0), (.slice none 0 0), (.slice none 0 0)]),
              o0 (.store 3 (.t 6) (.t 35))])
             (.seq (.reg [o1 36 (.faddr 0 (.t 6)),
               o1 37 (.load none (.t 36)),
               o1 38 (.lenL (.t 37)),
               o1 39 (.faddr 1 (.t 6)),
               o1 40 (.load none (.t 39)),
               o1 41 (.lenL (.t 40)),
               o1 42 (.bin .neq (.t 38) (.t 41)),
               o1 43 (.mv (.t 42)),
               oF 44 (.faddr 0 (.t 6)) 43,
               oF 45 (.load none (.t 44)) 43,
               oF 46 (.lenL (.t 45)) 43,
               oF 47 (.faddr 2 (.t 6)) 43,
               oF 48 (.load none (.t 47)) 43,
               oF 49 (.lenL (.t 48)) 43,
               oF 50 (.bin .neq (.t 46) (.t 49)) 43,
               o1 51 (.pick (.t 43) (cB true) (.t 50))])
              (.cond (.t 51) (.seq (.reg [o1 2 (.mv (cI 10))])
                (.ret)) (.skip)))))
           (.reg [o1 52 (.bin .add (.t 32) (cI 1)),
            o1 32 (.mv (.t 52))])))))))
     (.seq (.seq (.reg [o1 53 (.mv (.t 0)),
        o1 54 (.lenL (.t 53)),
        o1 55 (.mv (cI 0))])
       (.block 4 (.loop (.seq (.reg [o1 56 (.bin .lss (.t 55) (.t 54))])
          (.seq (.cond (.t 56) (.skip) (.exit 4))
           (.seq (.block 5 (.seq (.reg [o1 57 (.iaddr 3 (.t 53) (.t 55)),
               o1 58 (.load (some 3) (.t 57)),
               o1 8 (.alloc 56 3 [(.slice none 0 0), (.slice none 0 0), (.slice none 0 0)]),
               o0 (.store 3 (.t 8) (.t 58))])
              (.seq (.reg [o1 59 (.faddr 1 (.t 8)),
                o1 60 (.load none (.t 59)),
                o1 61 (.faddr 2 (.t 8)),
                o1 62 (.load none (.t 61)),
                o1 63 (.buildSl 40 1 2 [(.slice none 0 0)] [(0, 1, (.t 60)), (1, 1, (.t 62))]),
                o1 64 (.call (.f 42) [(.t 63)]),
                o1 65 (.lenL (.t 64)),
                o1 66 (.mv (cI 0))])
               (.block 6 (.loop (.seq (.reg [o1 67 (.bin .lss (.t 66) (.t 65))])
                  (.seq (.cond (.t 67) (.skip) (.exit 6))
                   (.seq (.block 7 (.seq (.reg [o1 68 (.iaddr 1 (.t 64) (.t 66)),
                       o1 69 (.load none (.t 68)),
                       o1 10 (.mv (.t 69))])
                      (.seq (.reg [o1 70 (.mv (.t 10)),
                        o1 71 (.call (.f 37) [(.t 70)]),
                        o1 72 (.un .not (.t 71))])
                       (.cond (.t 72) (.seq (.reg [o1 2 (.mv (cI 1))])
                         (.ret)) (.skip)))))
                    (.reg [o1 73 (.bin .add (.t 66) (cI 1)),
                     o1 66 (.mv (.t 73))])))))))))
            (.reg [o1 74 (.bin .add (.t 55) (cI 1)),
             o1 55 (.mv (.t 74))])))))))
      (.seq (.reg [o1 2 (.mv (cI 0))])
       (.ret))))))
theorem s15_ok : lookF Try.prog 15 = some (s15, 75, [.tmp 2]) := by kernel_rfl
set_option maxHeartbeats 2000000 in
theorem validateL_ok (l : List Lesson) (hs : ∀ x ∈ l, SmL x) : Fn P 15 [sl l] (intA (valL l)) := by
  by_cases h1 : 200 < l.length
  · rw [valL, if_pos h1]
    (refine fn_look s15_ok (by simp) (by intro k; simp only [go_sem, Nat.reduceEqDiff, ↓reduceIte, reduceCtorEq, Nat.reduceAdd, Nat.reduceMul, Int.reduceToNat, List.reduceReplicate, Nat.reduceLeDiff, Nat.reduceLT, Int.reduceLT, Int.reduceLE, Int.reduceEq]) fun S hS => cwp_sound _ _ _ _ ?_; simp (maxSteps := 900000) (disch := omega) only [s15, go_sem, Nat.reduceEqDiff, ↓reduceIte, reduceCtorEq, Nat.reduceAdd, Nat.reduceMul, Int.reduceToNat, List.reduceReplicate, Nat.reduceLeDiff, Nat.reduceLT, Int.reduceLT, Int.reduceLE, Int.reduceEq])
    repeat' (first | with_reducible refine inw ?_ | simp (maxSteps := 900000) (disch := omega) only [go_sem, Nat.reduceEqDiff, ↓reduceIte, reduceCtorEq, Nat.reduceAdd, Nat.reduceMul, Int.reduceToNat, List.reduceReplicate, Nat.reduceLeDiff, Nat.reduceLT, Int.reduceLT, Int.reduceLE, Int.reduceEq] | with_reducible refine giv_intro fun _h => ?_ | with_reducible refine alt_intro ?_ fun _h => ?_ | with_reducible refine pickD_nil ?_ | (with_reducible refine brc (fun _h => ?_) fun _h => ?_) <;> first | (exfalso; omega) | simp only [decide_eq_false _h] | simp only [(_h : (_ : Bool) = _)] | simp only [decide_eq_true _h] | skip)
  · rw [valL, if_neg h1]
    (refine fn_look s15_ok (by simp) (by intro k; simp only [go_sem, Nat.reduceEqDiff, ↓reduceIte, reduceCtorEq, Nat.reduceAdd, Nat.reduceMul, Int.reduceToNat, List.reduceReplicate, Nat.reduceLeDiff, Nat.reduceLT, Int.reduceLT, Int.reduceLE, Int.reduceEq]) fun S hS => cwp_sound _ _ _ _ ?_; simp (maxSteps := 900000) (disch := omega) only [s15, go_sem, Nat.reduceEqDiff, ↓reduceIte, reduceCtorEq, Nat.reduceAdd, Nat.reduceMul, Int.reduceToNat, List.reduceReplicate, Nat.reduceLeDiff, Nat.reduceLT, Int.reduceLT, Int.reduceLE, Int.reduceEq])
    repeat' (first | with_reducible refine inw ?_ | simp (maxSteps := 900000) (disch := omega) only [go_sem, Nat.reduceEqDiff, ↓reduceIte, reduceCtorEq, Nat.reduceAdd, Nat.reduceMul, Int.reduceToNat, List.reduceReplicate, Nat.reduceLeDiff, Nat.reduceLT, Int.reduceLT, Int.reduceLE, Int.reduceEq] | with_reducible refine giv_intro fun _h => ?_ | with_reducible refine alt_intro ?_ fun _h => ?_ | with_reducible refine pickD_nil ?_ | (with_reducible refine brc (fun _h => ?_) fun _h => ?_) <;> first | (exfalso; omega) | simp only [decide_eq_false _h] | simp only [(_h : (_ : Bool) = _)] | simp only [decide_eq_true _h] | skip)
    (refine loopC hS [0, 14, 15] (by simp only [go_sem, Nat.reduceEqDiff, ↓reduceIte, reduceCtorEq, Nat.reduceAdd, Nat.reduceMul, Int.reduceToNat, List.reduceReplicate, Nat.reduceLeDiff, Nat.reduceLT, Int.reduceLT, Int.reduceLE, Int.reduceEq]; try rfl) (fun (i : Nat) => [(16, intA i)]) (fun (i : Nat) => []) (fun (i : Nat) => i ≤ l.length ∧ ∀ j, j < i → longL (nth l j) = false) (fun (i : Nat) => l.length - i) (0) ?h04 ?hn4 ?rd4; case hn4 => (intro s; first | rfl | (rcases s with ⟨_, _⟩; rfl) | (rcases s with ⟨_, _, _⟩; rfl) | (rcases s with ⟨_, _, _, _⟩; rfl) | (rcases s with ⟨_, _, _, _, _⟩; rfl)))
    · simp (maxSteps := 900000) (disch := omega) only [go_sem, Nat.reduceEqDiff, ↓reduceIte, reduceCtorEq, Nat.reduceAdd, Nat.reduceMul, Int.reduceToNat, List.reduceReplicate, Nat.reduceLeDiff, Nat.reduceLT, Int.reduceLT, Int.reduceLE, Int.reduceEq]; simp
    rintro i ⟨hi, ha⟩
    replace hi : i ≤ l.length := hi
    replace ha : ∀ j, j < i → longL (nth l j) = false := ha
    by_cases hil : i < l.length
    · have c1 := containsFuncS_ok (nth l i).1 (fun s => decide (400 < s.size)) 41 [] (by simp) (fun c _ => valL1_ok c)
      repeat' (first | with_reducible refine inw ?_ | simp (maxSteps := 900000) (disch := omega) only [go_sem, Nat.reduceEqDiff, ↓reduceIte, reduceCtorEq, Nat.reduceAdd, Nat.reduceMul, Int.reduceToNat, List.reduceReplicate, Nat.reduceLeDiff, Nat.reduceLT, Int.reduceLT, Int.reduceLE, Int.reduceEq] | (with_reducible apply call (c1)); (focus simp (maxSteps := 900000) (disch := omega) only [go_sem, Nat.reduceEqDiff, ↓reduceIte, reduceCtorEq, Nat.reduceAdd, Nat.reduceMul, Int.reduceToNat, List.reduceReplicate, Nat.reduceLeDiff, Nat.reduceLT, Int.reduceLT, Int.reduceLE, Int.reduceEq] <;> rfl) | with_reducible refine giv_intro fun _h => ?_ | with_reducible refine alt_intro ?_ fun _h => ?_ | with_reducible refine pickD_nil ?_ | (with_reducible refine brc (fun _h => ?_) fun _h => ?_) <;> first | (exfalso; omega) | simp only [decide_eq_false _h] | simp only [(_h : (_ : Bool) = _)] | simp only [decide_eq_true _h] | skip)
      all_goals first
        | (refine ⟨i + 1, ⟨by omega, by omega, allN_step ha ?_⟩, by omega⟩; rw [longL]; simp [*]; done)
        | (refine ⟨i + 1, ⟨by omega, by omega, allN_step ha ?_⟩, by omega⟩; rw [longL, decide_eq_false (by omega), Bool.false_or]; assumption)
        | (rw [if_pos (any_yes hil _)]; rw [longL]; simp [*]; done)
        | (rw [if_pos (any_yes hil _)]; rw [longL]; simp [*]; omega)
    · rw [if_neg (by rw [any_no fun j hj => ha j (by omega)]; simp)]
      repeat' (first | with_reducible refine inw ?_ | simp (maxSteps := 900000) (disch := omega) only [go_sem, Nat.reduceEqDiff, ↓reduceIte, reduceCtorEq, Nat.reduceAdd, Nat.reduceMul, Int.reduceToNat, List.reduceReplicate, Nat.reduceLeDiff, Nat.reduceLT, Int.reduceLT, Int.reduceLE, Int.reduceEq] | with_reducible refine giv_intro fun _h => ?_ | with_reducible refine alt_intro ?_ fun _h => ?_ | with_reducible refine pickD_nil ?_ | (with_reducible refine brc (fun _h => ?_) fun _h => ?_) <;> first | (exfalso; omega) | simp only [decide_eq_false _h] | simp only [(_h : (_ : Bool) = _)] | simp only [decide_eq_true _h] | skip)
      (refine loopC hS [0, 30, 31] (by simp only [go_sem, Nat.reduceEqDiff, ↓reduceIte, reduceCtorEq, Nat.reduceAdd, Nat.reduceMul, Int.reduceToNat, List.reduceReplicate, Nat.reduceLeDiff, Nat.reduceLT, Int.reduceLT, Int.reduceLE, Int.reduceEq]; try rfl) (fun (i : Nat) => [(32, intA i)]) (fun (i : Nat) => []) (fun (i : Nat) => i ≤ l.length ∧ ∀ j, j < i → fitL (nth l j) = true) (fun (i : Nat) => l.length - i) (0) ?h05 ?hn5 ?rd5; case hn5 => (intro s; first | rfl | (rcases s with ⟨_, _⟩; rfl) | (rcases s with ⟨_, _, _⟩; rfl) | (rcases s with ⟨_, _, _, _⟩; rfl) | (rcases s with ⟨_, _, _, _, _⟩; rfl)))
      · simp (maxSteps := 900000) (disch := omega) only [go_sem, Nat.reduceEqDiff, ↓reduceIte, reduceCtorEq, Nat.reduceAdd, Nat.reduceMul, Int.reduceToNat, List.reduceReplicate, Nat.reduceLeDiff, Nat.reduceLT, Int.reduceLT, Int.reduceLE, Int.reduceEq]; simp
      rintro i ⟨hi, hb⟩
      replace hi : i ≤ l.length := hi
      replace hb : ∀ j, j < i → fitL (nth l j) = true := hb
      by_cases hil : i < l.length
      · repeat' (first | with_reducible refine inw ?_ | simp (maxSteps := 900000) (disch := omega) only [go_sem, Nat.reduceEqDiff, ↓reduceIte, reduceCtorEq, Nat.reduceAdd, Nat.reduceMul, Int.reduceToNat, List.reduceReplicate, Nat.reduceLeDiff, Nat.reduceLT, Int.reduceLT, Int.reduceLE, Int.reduceEq] | with_reducible refine giv_intro fun _h => ?_ | with_reducible refine alt_intro ?_ fun _h => ?_ | with_reducible refine pickD_nil ?_ | (with_reducible refine brc (fun _h => ?_) fun _h => ?_) <;> first | (exfalso; omega) | simp only [decide_eq_false _h] | simp only [(_h : (_ : Bool) = _)] | simp only [decide_eq_true _h] | skip)
        all_goals first
          | (refine ⟨i + 1, ⟨by omega, by omega, allN_step hb ?_⟩, by omega⟩; rw [fitL]; simp; omega)
          | (rw [if_neg (by rw [all_no (p := fitL) hil (by rw [fitL]; simp; omega)]; simp)]; done)
      · rw [if_pos (all_nth fun j hj => hb j (by omega))]
        repeat' (first | with_reducible refine inw ?_ | simp (maxSteps := 900000) (disch := omega) only [go_sem, Nat.reduceEqDiff, ↓reduceIte, reduceCtorEq, Nat.reduceAdd, Nat.reduceMul, Int.reduceToNat, List.reduceReplicate, Nat.reduceLeDiff, Nat.reduceLT, Int.reduceLT, Int.reduceLE, Int.reduceEq] | with_reducible refine giv_intro fun _h => ?_ | with_reducible refine alt_intro ?_ fun _h => ?_ | with_reducible refine pickD_nil ?_ | (with_reducible refine brc (fun _h => ?_) fun _h => ?_) <;> first | (exfalso; omega) | simp only [decide_eq_false _h] | simp only [(_h : (_ : Bool) = _)] | simp only [decide_eq_true _h] | skip)
        (refine loopC hS [53, 54] (by simp only [go_sem, Nat.reduceEqDiff, ↓reduceIte, reduceCtorEq, Nat.reduceAdd, Nat.reduceMul, Int.reduceToNat, List.reduceReplicate, Nat.reduceLeDiff, Nat.reduceLT, Int.reduceLT, Int.reduceLE, Int.reduceEq]; try rfl) (fun (i : Nat) => [(55, intA i)]) (fun (i : Nat) => []) (fun (i : Nat) => i ≤ l.length ∧ ∀ j, j < i → nmL (nth l j) = true) (fun (i : Nat) => l.length - i) (0) ?h06 ?hn6 ?rd6; case hn6 => (intro s; first | rfl | (rcases s with ⟨_, _⟩; rfl) | (rcases s with ⟨_, _, _⟩; rfl) | (rcases s with ⟨_, _, _, _⟩; rfl) | (rcases s with ⟨_, _, _, _, _⟩; rfl)))
        · simp (maxSteps := 900000) (disch := omega) only [go_sem, Nat.reduceEqDiff, ↓reduceIte, reduceCtorEq, Nat.reduceAdd, Nat.reduceMul, Int.reduceToNat, List.reduceReplicate, Nat.reduceLeDiff, Nat.reduceLT, Int.reduceLT, Int.reduceLE, Int.reduceEq]; simp
        rintro i ⟨hi, hc⟩
        replace hi : i ≤ l.length := hi
        replace hc : ∀ j, j < i → nmL (nth l j) = true := hc
        by_cases hil2 : i < l.length
        · have f1 := hb i (by omega)
          have f2 := ha i (by omega)
          rw [fitL] at f1; rw [longL] at f2
          simp only [Bool.and_eq_true, decide_eq_true_eq, Bool.or_eq_false_iff, decide_eq_false_iff_not] at f1 f2
          have c1 := concatS_ok [(nth l i).2.1, (nth l i).2.2] (by simp) (by simp; omega)
          have hm := hs _ (nth_mem hil2)
          have hsz : ∀ s ∈ [(nth l i).2.1, (nth l i).2.2].flatten, s.size ≤ 4611686018427387904 := fun s h => by
            simp only [List.flatten_cons, List.flatten_nil, List.append_nil, List.mem_append] at h
            exact h.elim (hm.2.1 s) (hm.2.2 s)
          rw [show ∀ b c : Int, (if l.all nmL = true then b else c) = (if l.all nmL = true then b else c) from fun _ _ => rfl]
          have hq := nm_app (nth l i)
          generalize hg : [(nth l i).2.1, (nth l i).2.2].flatten = g at c1 hsz hq
          repeat' (first | with_reducible refine inw ?_ | simp (maxSteps := 900000) (disch := omega) only [go_sem, Nat.reduceEqDiff, ↓reduceIte, reduceCtorEq, Nat.reduceAdd, Nat.reduceMul, Int.reduceToNat, List.reduceReplicate, Nat.reduceLeDiff, Nat.reduceLT, Int.reduceLT, Int.reduceLE, Int.reduceEq] | (with_reducible apply call_give (c1)); (focus simp (maxSteps := 900000) (disch := omega) only [go_sem, Nat.reduceEqDiff, ↓reduceIte, reduceCtorEq, Nat.reduceAdd, Nat.reduceMul, Int.reduceToNat, List.reduceReplicate, Nat.reduceLeDiff, Nat.reduceLT, Int.reduceLT, Int.reduceLE, Int.reduceEq] <;> rfl) | with_reducible refine giv_intro fun _h => ?_ | with_reducible refine alt_intro ?_ fun _h => ?_ | with_reducible refine pickD_nil ?_ | (with_reducible refine brc (fun _h => ?_) fun _h => ?_) <;> first | (exfalso; omega) | simp only [decide_eq_false _h] | simp only [(_h : (_ : Bool) = _)] | simp only [decide_eq_true _h] | skip)
          (refine loopC hS [53, 54, 55, 64, 65] (by simp only [go_sem, Nat.reduceEqDiff, ↓reduceIte, reduceCtorEq, Nat.reduceAdd, Nat.reduceMul, Int.reduceToNat, List.reduceReplicate, Nat.reduceLeDiff, Nat.reduceLT, Int.reduceLT, Int.reduceLE, Int.reduceEq]; try rfl) (fun (k : Nat) => [(66, intA k)]) (fun (k : Nat) => [none, none]) (fun (k : Nat) => k ≤ g.length ∧ ∀ j, j < k → nameB (nth g j) = true) (fun (k : Nat) => g.length - k) (0) ?h07 ?hn7 ?rd7; case hn7 => (intro s; first | rfl | (rcases s with ⟨_, _⟩; rfl) | (rcases s with ⟨_, _, _⟩; rfl) | (rcases s with ⟨_, _, _, _⟩; rfl) | (rcases s with ⟨_, _, _, _, _⟩; rfl)))
          · simp (maxSteps := 900000) (disch := omega) only [go_sem, Nat.reduceEqDiff, ↓reduceIte, reduceCtorEq, Nat.reduceAdd, Nat.reduceMul, Int.reduceToNat, List.reduceReplicate, Nat.reduceLeDiff, Nat.reduceLT, Int.reduceLT, Int.reduceLE, Int.reduceEq]; simp
          rintro k ⟨hk, hd⟩
          replace hk : k ≤ g.length := hk
          replace hd : ∀ j, j < k → nameB (nth g j) = true := hd
          by_cases hkl : k < g.length
          · have c2 := isName_ok (nth g k) (hsz _ (nth_mem hkl))
            repeat' (first | with_reducible refine inw ?_ | simp (maxSteps := 900000) (disch := omega) only [go_sem, Nat.reduceEqDiff, ↓reduceIte, reduceCtorEq, Nat.reduceAdd, Nat.reduceMul, Int.reduceToNat, List.reduceReplicate, Nat.reduceLeDiff, Nat.reduceLT, Int.reduceLT, Int.reduceLE, Int.reduceEq] | (with_reducible apply call (c2)); (focus simp (maxSteps := 900000) (disch := omega) only [go_sem, Nat.reduceEqDiff, ↓reduceIte, reduceCtorEq, Nat.reduceAdd, Nat.reduceMul, Int.reduceToNat, List.reduceReplicate, Nat.reduceLeDiff, Nat.reduceLT, Int.reduceLT, Int.reduceLE, Int.reduceEq] <;> rfl) | with_reducible refine giv_intro fun _h => ?_ | with_reducible refine alt_intro ?_ fun _h => ?_ | with_reducible refine pickD_nil ?_ | (with_reducible refine brc (fun _h => ?_) fun _h => ?_) <;> first | (exfalso; omega) | simp only [decide_eq_false _h] | simp only [(_h : (_ : Bool) = _)] | simp only [decide_eq_true _h] | skip)
            · rw [if_neg (by rw [all_no hil2 (by rw [hq]; exact all_no hkl _h)]; simp)]
            · exact ⟨k + 1, ⟨by omega, by omega, allN_step hd _h⟩, by omega⟩
          · repeat' (first | with_reducible refine inw ?_ | simp (maxSteps := 900000) (disch := omega) only [go_sem, Nat.reduceEqDiff, ↓reduceIte, reduceCtorEq, Nat.reduceAdd, Nat.reduceMul, Int.reduceToNat, List.reduceReplicate, Nat.reduceLeDiff, Nat.reduceLT, Int.reduceLT, Int.reduceLE, Int.reduceEq] | with_reducible refine giv_intro fun _h => ?_ | with_reducible refine alt_intro ?_ fun _h => ?_ | with_reducible refine pickD_nil ?_ | (with_reducible refine brc (fun _h => ?_) fun _h => ?_) <;> first | (exfalso; omega) | simp only [decide_eq_false _h] | simp only [(_h : (_ : Bool) = _)] | simp only [decide_eq_true _h] | skip)
            exact ⟨i + 1, ⟨by omega, by omega, allN_step hc (by rw [hq]; exact all_nth fun j hj => hd j (by omega))⟩, by omega⟩
        · rw [if_pos (all_nth fun j hj => hc j (by omega))]
          repeat' (first | with_reducible refine inw ?_ | simp (maxSteps := 900000) (disch := omega) only [go_sem, Nat.reduceEqDiff, ↓reduceIte, reduceCtorEq, Nat.reduceAdd, Nat.reduceMul, Int.reduceToNat, List.reduceReplicate, Nat.reduceLeDiff, Nat.reduceLT, Int.reduceLT, Int.reduceLE, Int.reduceEq] | with_reducible refine giv_intro fun _h => ?_ | with_reducible refine alt_intro ?_ fun _h => ?_ | with_reducible refine pickD_nil ?_ | (with_reducible refine brc (fun _h => ?_) fun _h => ?_) <;> first | (exfalso; omega) | simp only [decide_eq_false _h] | simp only [(_h : (_ : Bool) = _)] | simp only [decide_eq_true _h] | skip)
end Go.Proofs.Ytapgimibdamjoaa.Ev

/- Slices put together: Grow, Concat, Clone at texts. -/
import Derived.Test.YtpfoflhhbkjngaaZFnA
import Derived.Test.YtpfoflhhbkjngaaZEvU
set_option linter.unusedVariables false
set_option linter.unusedSimpArgs false
namespace Go.Proofs.Ytpfoflhhbkjngaa.Ev
open Go Go.Proofs

/-- slices.Grow[[]string,string]: 2 parameters, 0 captured; NO [region 2 slices.go:424 panic] -/
def s116 : SC := .seq (.reg [o1 4 (.mv (.c (.slice none 0 0)))])
  (.seq (.seq (.reg [o1 5 (.mv (.t 1)),
     o1 6 (.bin .lss (.t 5) (cI 0))])
    (.cond (.t 6) (.reg [o1 7 (.mkif 9 (.c (.string ⟨#[99, 97, 110, 110, 111, 116, 32, 98, 101, 32, 110, 101, 103, 97, 116, 105, 118, 101]⟩))),
      o0 (.no)]) (.skip)))
   (.seq (.seq (.reg [o1 8 (.mv (.t 1)),
      o1 9 (.mv (.t 0)),
      o1 10 (.capL (.t 9)),
      o1 11 (.mv (.t 0)),
      o1 12 (.lenL (.t 11)),
      o1 13 (.bin .sub (.t 10) (.t 12)),
      o1 14 (.bin .sub (.t 8) (.t 13)),
      o1 1 (.mv (.t 14))])
     (.seq (.reg [o1 15 (.mv (.t 1)),
       o1 16 (.bin .gtr (.t 15) (cI 0))])
      (.cond (.t 16) (.reg [o1 17 (.mv (.t 0)),
        o1 18 (.mv (.t 0)),
        o1 19 (.capL (.t 18)),
        o1 20 (.sl 1 (.t 17) none (some (.t 19))),
        o1 21 (.mv (.t 1)),
        o1 22 (.appZ 9 1 16 [(.string ⟨#[]⟩)] (.t 20) (.t 21)),
        o1 23 (.mv (.t 0)),
        o1 24 (.lenL (.t 23)),
        o1 25 (.sl 1 (.t 22) none (some (.t 24))),
        o1 0 (.mv (.t 25))]) (.skip))))
    (.seq (.reg [o1 26 (.mv (.t 0)),
      o1 4 (.mv (.t 26))])
     (.ret))))
theorem s116_ok : lookF Try.prog 116 = some (s116, 27, [.tmp 4]) := by kernel_rfl
theorem growS_ok (n : Nat) (h : 0 < n) (hn : n ≤ 8796093022208) : FnS P 116 [nilA, intA n] (fun S L r => ∃ L1, L = [some (Ob.row 9 1 (cellsL (List.replicate n (⟨#[]⟩ : Str))))] ∧ r = AV.ref (S.nm 0) n 0 0 ∧ L1 = L) := by
  have e : ((n : Int) - (0 - 0)).toNat = n := by omega
  (refine fnS_look s116_ok (by simp) fun S hS => cwp_sound _ _ _ _ ?_; simp (maxSteps := 900000) (disch := omega) only [s116, go_sem, Nat.reduceEqDiff, ↓reduceIte, reduceCtorEq, Nat.reduceAdd, Nat.reduceMul, Int.reduceToNat, List.reduceReplicate, Nat.reduceLeDiff, Nat.reduceLT, Int.reduceLT, Int.reduceLE, Int.reduceEq])
  repeat' (first | with_reducible refine inw ?_ | simp (maxSteps := 900000) (disch := omega) only [go_sem, Nat.reduceEqDiff, ↓reduceIte, reduceCtorEq, Nat.reduceAdd, Nat.reduceMul, Int.reduceToNat, List.reduceReplicate, Nat.reduceLeDiff, Nat.reduceLT, Int.reduceLT, Int.reduceLE, Int.reduceEq, e] | with_reducible refine pickB_f ?_ | with_reducible refine giv_intro fun _h => ?_ | with_reducible refine alt_intro ?_ fun _h => ?_ | with_reducible refine pickD_nil ?_ | (with_reducible refine brc (fun _h => ?_) fun _h => ?_) <;> first | (exfalso; omega) | simp only [decide_eq_false _h] | simp only [(_h : (_ : Bool) = _)] | simp only [decide_eq_true _h] | skip)
  exact ⟨_, rfl⟩
theorem growS_nil : FnS P 116 [nilA, intA 0] (fun S L r => L = [] ∧ r = nilA) := by
  (refine fnS_look s116_ok (by simp) fun S hS => cwp_sound _ _ _ _ ?_; simp (maxSteps := 900000) (disch := omega) only [s116, go_sem, Nat.reduceEqDiff, ↓reduceIte, reduceCtorEq, Nat.reduceAdd, Nat.reduceMul, Int.reduceToNat, List.reduceReplicate, Nat.reduceLeDiff, Nat.reduceLT, Int.reduceLT, Int.reduceLE, Int.reduceEq])
  repeat' (first | with_reducible refine inw ?_ | simp (maxSteps := 900000) (disch := omega) only [go_sem, Nat.reduceEqDiff, ↓reduceIte, reduceCtorEq, Nat.reduceAdd, Nat.reduceMul, Int.reduceToNat, List.reduceReplicate, Nat.reduceLeDiff, Nat.reduceLT, Int.reduceLT, Int.reduceLE, Int.reduceEq] | with_reducible refine pickB_f ?_ | with_reducible refine giv_intro fun _h => ?_ | with_reducible refine alt_intro ?_ fun _h => ?_ | with_reducible refine pickD_nil ?_ | (with_reducible refine brc (fun _h => ?_) fun _h => ?_) <;> first | (exfalso; omega) | simp only [decide_eq_false _h] | simp only [(_h : (_ : Bool) = _)] | simp only [decide_eq_true _h] | skip)
/-- slices.Clone[[]string,string]: 1 parameters, 0 captured -/
def s79 : SC := .seq (.reg [o1 2 (.mv (.c (.slice none 0 0)))])
  (.seq (.seq (.reg [o1 3 (.mv (.t 0)),
     o1 4 (.eq false .slice (.t 3) (.c (.slice none 0 0)))])
    (.cond (.t 4) (.seq (.reg [o1 2 (.mv (.c (.slice none 0 0)))])
      (.ret)) (.skip)))
   (.seq (.reg [o1 5 (.buildSl 9 1 0 [(.string ⟨#[]⟩)] []),
     o1 6 (.mv (.t 0)),
     o1 7 (.app 9 1 16 (.t 5) (.t 6)),
     o1 2 (.mv (.t 7))])
    (.ret)))
theorem s79_ok : lookF Try.prog 79 = some (s79, 8, [.tmp 2]) := by kernel_rfl
theorem cloneS_ok (l : List Str) (hl : l.length ≤ 8796093022208) : Fn P 79 [sl l] (sl l) := by
  (refine fn_look s79_ok (by simp) (by intro k; simp only [go_sem, Nat.reduceEqDiff, ↓reduceIte, reduceCtorEq, Nat.reduceAdd, Nat.reduceMul, Int.reduceToNat, List.reduceReplicate, Nat.reduceLeDiff, Nat.reduceLT, Int.reduceLT, Int.reduceLE, Int.reduceEq]) fun S hS => cwp_sound _ _ _ _ ?_; simp (maxSteps := 900000) (disch := omega) only [s79, go_sem, Nat.reduceEqDiff, ↓reduceIte, reduceCtorEq, Nat.reduceAdd, Nat.reduceMul, Int.reduceToNat, List.reduceReplicate, Nat.reduceLeDiff, Nat.reduceLT, Int.reduceLT, Int.reduceLE, Int.reduceEq])
  repeat' (first | with_reducible refine inw ?_ | simp (maxSteps := 900000) (disch := omega) only [go_sem, Nat.reduceEqDiff, ↓reduceIte, reduceCtorEq, Nat.reduceAdd, Nat.reduceMul, Int.reduceToNat, List.reduceReplicate, Nat.reduceLeDiff, Nat.reduceLT, Int.reduceLT, Int.reduceLE, Int.reduceEq] | with_reducible refine pickB_f ?_ | with_reducible refine giv_intro fun _h => ?_ | with_reducible refine alt_intro ?_ fun _h => ?_ | with_reducible refine pickD_nil ?_ | (with_reducible refine brc (fun _h => ?_) fun _h => ?_) <;> first | (exfalso; omega) | simp only [decide_eq_false _h] | simp only [(_h : (_ : Bool) = _)] | simp only [decide_eq_true _h] | skip)
  rw [List.eq_nil_of_length_eq_zero _h]; rfl
theorem flat_step {α : Type} {k : Nat} [Enc α k] {ls : List (List α)} {i : Nat} (h : i < ls.length) : (ls.take (i + 1)).flatten = (ls.take i).flatten ++ nth ls i := by
  rw [List.take_add_one, nth_get? h]; simp
theorem flat_le {α : Type} (ls : List (List α)) (i : Nat) : ((ls.take i).flatten).length ≤ ls.flatten.length := by
  have : ls.flatten = (ls.take i).flatten ++ (ls.drop i).flatten := by rw [← List.flatten_append, List.take_append_drop]
  rw [this]; simp
/-- slices.Concat[[]string,string]: 1 parameters, 0 captured; NO [region 7 slices.go:496 panic] -/
def s75 : SC := .seq (.reg [o1 2 (.mv (.c (.slice none 0 0)))])
  (.seq (.reg [o1 3 (.mv (cI 0))])
   (.seq (.seq (.reg [o1 9 (.mv (.t 0)),
      o1 10 (.lenL (.t 9)),
      o1 11 (.mv (cI 0))])
     (.block 0 (.loop (.seq (.reg [o1 12 (.bin .lss (.t 11) (.t 10))])
        (.seq (.cond (.t 12) (.skip) (.exit 0))
         (.seq (.block 1 (.seq (.reg [o1 13 (.iaddr 1 (.t 9) (.t 11)),
             o1 14 (.load none (.t 13)),
             o1 5 (.mv (.t 14))])
            (.seq (.reg [o1 15 (.mv (.t 3)),
              o1 16 (.mv (.t 5)),
              o1 17 (.lenL (.t 16)),
              o1 18 (.bin .add (.t 15) (.t 17)),
              o1 3 (.mv (.t 18))])
             (.seq (.reg [o1 19 (.mv (.t 3)),
               o1 20 (.bin .lss (.t 19) (cI 0))])
              (.cond (.t 20) (.reg [o1 21 (.mkif 9 (.c (.string ⟨#[108, 101, 110, 32, 111, 117, 116, 32, 111, 102, 32, 114, 97, 110, 103, 101]⟩))),
                o0 (.no)]) (.skip))))))
          (.reg [o1 22 (.bin .add (.t 11) (cI 1)),
           o1 11 (.mv (.t 22))])))))))
    (.seq (.reg [o1 23 (.mv (.t 3)),
      o1 24 (.call (.f 116) [(.c (.slice none 0 0)), (.t 23)]),
      o1 6 (.mv (.t 24))])
     (.seq (.seq (.reg [o1 25 (.mv (.t 0)),
        o1 26 (.lenL (.t 25)),
        o1 27 (.mv (cI 0))])
       (.block 2 (.loop (.seq (.reg [o1 28 (.bin .lss (.t 27) (.t 26))])
          (.seq (.cond (.t 28) (.skip) (.exit 2))
           (.seq (.block 3 (.seq (.reg [o1 29 (.iaddr 1 (.t 25) (.t 27)),
               o1 30 (.load none (.t 29)),
               o1 8 (.mv (.t 30))])
              (.reg [o1 31 (.mv (.t 6)),
               o1 32 (.mv (.t 8)),
               o1 33 (.app 9 1 16 (.t 31) (.t 32)),
               o1 6 (.mv (.t 33))])))
            (.reg [o1 34 (.bin .add (.t 27) (cI 1)),
             o1 27 (.mv (.t 34))])))))))
      (.seq (.reg [o1 35 (.mv (.t 6)),
        o1 2 (.mv (.t 35))])
       (.ret))))))
theorem s75_ok : lookF Try.prog 75 = some (s75, 36, [.tmp 2]) := by kernel_rfl
theorem concatS_ok (ls : List (List Str)) (hl : ls.length ≤ 8796093022208) (hn : ls.flatten.length ≤ 8796093022208) : Fn P 75 [sl ls] (sl ls.flatten) := by
  (refine fn_look s75_ok (by simp) (by intro k; simp only [go_sem, Nat.reduceEqDiff, ↓reduceIte, reduceCtorEq, Nat.reduceAdd, Nat.reduceMul, Int.reduceToNat, List.reduceReplicate, Nat.reduceLeDiff, Nat.reduceLT, Int.reduceLT, Int.reduceLE, Int.reduceEq]) fun S hS => cwp_sound _ _ _ _ ?_; simp (maxSteps := 900000) (disch := omega) only [s75, go_sem, Nat.reduceEqDiff, ↓reduceIte, reduceCtorEq, Nat.reduceAdd, Nat.reduceMul, Int.reduceToNat, List.reduceReplicate, Nat.reduceLeDiff, Nat.reduceLT, Int.reduceLT, Int.reduceLE, Int.reduceEq])
  repeat' (first | with_reducible refine inw ?_ | simp (maxSteps := 900000) (disch := omega) only [go_sem, Nat.reduceEqDiff, ↓reduceIte, reduceCtorEq, Nat.reduceAdd, Nat.reduceMul, Int.reduceToNat, List.reduceReplicate, Nat.reduceLeDiff, Nat.reduceLT, Int.reduceLT, Int.reduceLE, Int.reduceEq] | with_reducible refine pickB_f ?_ | with_reducible refine giv_intro fun _h => ?_ | with_reducible refine alt_intro ?_ fun _h => ?_ | with_reducible refine pickD_nil ?_ | (with_reducible refine brc (fun _h => ?_) fun _h => ?_) <;> first | (exfalso; omega) | simp only [decide_eq_false _h] | simp only [(_h : (_ : Bool) = _)] | simp only [decide_eq_true _h] | skip)
  (refine loopC hS [0, 9, 10] (by simp only [go_sem, Nat.reduceEqDiff, ↓reduceIte, reduceCtorEq, Nat.reduceAdd, Nat.reduceMul, Int.reduceToNat, List.reduceReplicate, Nat.reduceLeDiff, Nat.reduceLT, Int.reduceLT, Int.reduceLE, Int.reduceEq]; try rfl) (fun (i : Nat) => [(3, intA (((ls.take i).flatten).length : Nat)), (11, intA i)]) (fun (i : Nat) => []) (fun (i : Nat) => i ≤ ls.length) (fun (i : Nat) => ls.length - i) (0) ?_ (by intro s; first | (simp only [List.length_cons, List.length_nil]; done) | rfl | (rcases s with ⟨_, _⟩; rfl) | (rcases s with ⟨_, _, _⟩; rfl) | (rcases s with ⟨_, _, _, _⟩; rfl) | (rcases s with ⟨_, _, _, _, _⟩; rfl)) ?_)
  · simp (maxSteps := 900000) (disch := omega) only [go_sem, Nat.reduceEqDiff, ↓reduceIte, reduceCtorEq, Nat.reduceAdd, Nat.reduceMul, Int.reduceToNat, List.reduceReplicate, Nat.reduceLeDiff, Nat.reduceLT, Int.reduceLT, Int.reduceLE, Int.reduceEq]; simp
  · rintro i hi
    replace hi : i ≤ ls.length := hi
    have b1 := flat_le ls i
    have b2 := flat_le ls (i + 1)
    by_cases hil : i < ls.length
    · rw [flat_step hil] at b2
      simp only [List.length_append] at b2
      repeat' (first | with_reducible refine inw ?_ | simp (maxSteps := 900000) (disch := omega) only [go_sem, Nat.reduceEqDiff, ↓reduceIte, reduceCtorEq, Nat.reduceAdd, Nat.reduceMul, Int.reduceToNat, List.reduceReplicate, Nat.reduceLeDiff, Nat.reduceLT, Int.reduceLT, Int.reduceLE, Int.reduceEq] | with_reducible refine pickB_f ?_ | with_reducible refine giv_intro fun _h => ?_ | with_reducible refine alt_intro ?_ fun _h => ?_ | with_reducible refine pickD_nil ?_ | (with_reducible refine brc (fun _h => ?_) fun _h => ?_) <;> first | (exfalso; omega) | simp only [decide_eq_false _h] | simp only [(_h : (_ : Bool) = _)] | simp only [decide_eq_true _h] | skip)
      refine ⟨i + 1, ⟨by omega, by omega⟩, ?_⟩
      rw [flat_step hil]; simp
    · have hl2 : ls.take i = ls := List.take_of_length_le (by omega)
      rw [hl2]
      rcases Nat.eq_zero_or_pos ls.flatten.length with h0 | h0
      · rw [h0]
        have hz : ∀ j, j < ls.length → (nth ls j).length = 0 := fun j hj => by
          have := flat_le ls (j + 1)
          rw [flat_step hj, List.length_append] at this; omega
        repeat' (first | with_reducible refine inw ?_ | simp (maxSteps := 900000) (disch := omega) only [go_sem, Nat.reduceEqDiff, ↓reduceIte, reduceCtorEq, Nat.reduceAdd, Nat.reduceMul, Int.reduceToNat, List.reduceReplicate, Nat.reduceLeDiff, Nat.reduceLT, Int.reduceLT, Int.reduceLE, Int.reduceEq] | with_reducible refine pickB_f ?_ | with_reducible refine giv_intro fun _h => ?_ | with_reducible refine alt_intro ?_ fun _h => ?_ | with_reducible refine pickD_nil ?_ | (with_reducible refine brc (fun _h => ?_) fun _h => ?_) <;> first | (exfalso; omega) | simp only [decide_eq_false _h] | simp only [(_h : (_ : Bool) = _)] | simp only [decide_eq_true _h] | skip)
        refine callN growS_nil rfl ?_
        rintro L' r ⟨rfl, rfl⟩
        repeat' (first | with_reducible refine inw ?_ | simp (maxSteps := 900000) (disch := omega) only [go_sem, Nat.reduceEqDiff, ↓reduceIte, reduceCtorEq, Nat.reduceAdd, Nat.reduceMul, Int.reduceToNat, List.reduceReplicate, Nat.reduceLeDiff, Nat.reduceLT, Int.reduceLT, Int.reduceLE, Int.reduceEq] | with_reducible refine pickB_f ?_ | with_reducible refine giv_intro fun _h => ?_ | with_reducible refine alt_intro ?_ fun _h => ?_ | with_reducible refine pickD_nil ?_ | (with_reducible refine brc (fun _h => ?_) fun _h => ?_) <;> first | (exfalso; omega) | simp only [decide_eq_false _h] | simp only [(_h : (_ : Bool) = _)] | simp only [decide_eq_true _h] | skip)
        (refine loopC hS [25, 26] (by simp only [go_sem, Nat.reduceEqDiff, ↓reduceIte, reduceCtorEq, Nat.reduceAdd, Nat.reduceMul, Int.reduceToNat, List.reduceReplicate, Nat.reduceLeDiff, Nat.reduceLT, Int.reduceLT, Int.reduceLE, Int.reduceEq]; try rfl) (fun (i : Nat) => [(6, nilA), (27, intA i)]) (fun (i : Nat) => []) (fun (i : Nat) => i ≤ ls.length) (fun (i : Nat) => ls.length - i) (0) ?_ (by intro s; first | (simp only [List.length_cons, List.length_nil]; done) | rfl | (rcases s with ⟨_, _⟩; rfl) | (rcases s with ⟨_, _, _⟩; rfl) | (rcases s with ⟨_, _, _, _⟩; rfl) | (rcases s with ⟨_, _, _, _, _⟩; rfl)) ?_)
        · simp (maxSteps := 900000) (disch := omega) only [go_sem, Nat.reduceEqDiff, ↓reduceIte, reduceCtorEq, Nat.reduceAdd, Nat.reduceMul, Int.reduceToNat, List.reduceReplicate, Nat.reduceLeDiff, Nat.reduceLT, Int.reduceLT, Int.reduceLE, Int.reduceEq]; simp
        · rintro i hi
          replace hi : i ≤ ls.length := hi
          by_cases hil : i < ls.length
          · have := hz i hil
            repeat' (first | with_reducible refine inw ?_ | simp (maxSteps := 900000) (disch := omega) only [go_sem, Nat.reduceEqDiff, ↓reduceIte, reduceCtorEq, Nat.reduceAdd, Nat.reduceMul, Int.reduceToNat, List.reduceReplicate, Nat.reduceLeDiff, Nat.reduceLT, Int.reduceLT, Int.reduceLE, Int.reduceEq] | with_reducible refine pickB_f ?_ | with_reducible refine giv_intro fun _h => ?_ | with_reducible refine alt_intro ?_ fun _h => ?_ | with_reducible refine pickD_nil ?_ | (with_reducible refine brc (fun _h => ?_) fun _h => ?_) <;> first | (exfalso; omega) | simp only [decide_eq_false _h] | simp only [(_h : (_ : Bool) = _)] | simp only [decide_eq_true _h] | skip)
            exact ⟨i + 1, ⟨by omega, by omega⟩, by omega⟩
          · repeat' (first | with_reducible refine inw ?_ | simp (maxSteps := 900000) (disch := omega) only [go_sem, Nat.reduceEqDiff, ↓reduceIte, reduceCtorEq, Nat.reduceAdd, Nat.reduceMul, Int.reduceToNat, List.reduceReplicate, Nat.reduceLeDiff, Nat.reduceLT, Int.reduceLT, Int.reduceLE, Int.reduceEq] | with_reducible refine pickB_f ?_ | with_reducible refine giv_intro fun _h => ?_ | with_reducible refine alt_intro ?_ fun _h => ?_ | with_reducible refine pickD_nil ?_ | (with_reducible refine brc (fun _h => ?_) fun _h => ?_) <;> first | (exfalso; omega) | simp only [decide_eq_false _h] | simp only [(_h : (_ : Bool) = _)] | simp only [decide_eq_true _h] | skip)
            rw [List.eq_nil_of_length_eq_zero h0]; rfl
      · repeat' (first | with_reducible refine inw ?_ | simp (maxSteps := 900000) (disch := omega) only [go_sem, Nat.reduceEqDiff, ↓reduceIte, reduceCtorEq, Nat.reduceAdd, Nat.reduceMul, Int.reduceToNat, List.reduceReplicate, Nat.reduceLeDiff, Nat.reduceLT, Int.reduceLT, Int.reduceLE, Int.reduceEq] | with_reducible refine pickB_f ?_ | with_reducible refine giv_intro fun _h => ?_ | with_reducible refine alt_intro ?_ fun _h => ?_ | with_reducible refine pickD_nil ?_ | (with_reducible refine brc (fun _h => ?_) fun _h => ?_) <;> first | (exfalso; omega) | simp only [decide_eq_false _h] | simp only [(_h : (_ : Bool) = _)] | simp only [decide_eq_true _h] | skip)
        refine callN (growS_ok ls.flatten.length h0 hn) rfl ?_
        rintro L' r ⟨L1, rfl, rfl, _⟩
        simp only [nm_stk, List.nil_append, List.length_nil, Nat.zero_add]
        repeat' (first | with_reducible refine inw ?_ | simp (maxSteps := 900000) (disch := omega) only [go_sem, Nat.reduceEqDiff, ↓reduceIte, reduceCtorEq, Nat.reduceAdd, Nat.reduceMul, Int.reduceToNat, List.reduceReplicate, Nat.reduceLeDiff, Nat.reduceLT, Int.reduceLT, Int.reduceLE, Int.reduceEq] | with_reducible refine pickB_f ?_ | with_reducible refine giv_intro fun _h => ?_ | with_reducible refine alt_intro ?_ fun _h => ?_ | with_reducible refine pickD_nil ?_ | (with_reducible refine brc (fun _h => ?_) fun _h => ?_) <;> first | (exfalso; omega) | simp only [decide_eq_false _h] | simp only [(_h : (_ : Bool) = _)] | simp only [decide_eq_true _h] | skip)
        (refine loopC hS [25, 26] (by simp only [go_sem, Nat.reduceEqDiff, ↓reduceIte, reduceCtorEq, Nat.reduceAdd, Nat.reduceMul, Int.reduceToNat, List.reduceReplicate, Nat.reduceLeDiff, Nat.reduceLT, Int.reduceLT, Int.reduceLE, Int.reduceEq]; try rfl) (fun (⟨i, full⟩ : Nat × List Str) => [(6, .ref (S.nm 0) ls.flatten.length 0 ((ls.take i).flatten).length), (27, intA i)]) (fun (⟨i, full⟩ : Nat × List Str) => [rowO 9 full]) (fun (⟨i, full⟩ : Nat × List Str) => i ≤ ls.length ∧ full.length = ls.flatten.length ∧ full.take ((ls.take i).flatten).length = (ls.take i).flatten) (fun (⟨i, full⟩ : Nat × List Str) => ls.length - i) ((0, List.replicate ls.flatten.length ⟨#[]⟩)) ?_ (by intro s; first | (simp only [List.length_cons, List.length_nil]; done) | rfl | (rcases s with ⟨_, _⟩; rfl) | (rcases s with ⟨_, _, _⟩; rfl) | (rcases s with ⟨_, _, _, _⟩; rfl) | (rcases s with ⟨_, _, _, _, _⟩; rfl)) ?_)
        · simp (maxSteps := 900000) (disch := omega) only [go_sem, Nat.reduceEqDiff, ↓reduceIte, reduceCtorEq, Nat.reduceAdd, Nat.reduceMul, Int.reduceToNat, List.reduceReplicate, Nat.reduceLeDiff, Nat.reduceLT, Int.reduceLT, Int.reduceLE, Int.reduceEq]; simp
        · rintro ⟨i, full⟩ ⟨hi, hf, ht⟩
          replace hi : i ≤ ls.length := hi
          replace hf : full.length = ls.flatten.length := hf
          replace ht : full.take ((ls.take i).flatten).length = (ls.take i).flatten := ht
          by_cases hil : i < ls.length
          · have b3 := flat_le ls (i + 1)
            rw [flat_step hil, List.length_append] at b3
            repeat' (first | with_reducible refine inw ?_ | simp (maxSteps := 900000) (disch := omega) only [go_sem, Nat.reduceEqDiff, ↓reduceIte, reduceCtorEq, Nat.reduceAdd, Nat.reduceMul, Int.reduceToNat, List.reduceReplicate, Nat.reduceLeDiff, Nat.reduceLT, Int.reduceLT, Int.reduceLE, Int.reduceEq, ax_room] | with_reducible refine pickB_f ?_ | with_reducible refine giv_intro fun _h => ?_ | with_reducible refine alt_intro ?_ fun _h => ?_ | with_reducible refine pickD_nil ?_ | (with_reducible refine brc (fun _h => ?_) fun _h => ?_) <;> first | (exfalso; omega) | simp only [decide_eq_false _h] | simp only [(_h : (_ : Bool) = _)] | simp only [decide_eq_true _h] | skip)
            refine ⟨(i + 1, full.take ((ls.take i).flatten).length ++ nth ls i ++ full.drop (((ls.take i).flatten).length + (nth ls i).length)), ?_⟩
            dsimp only
            have e1 : (full.take ((ls.take i).flatten).length).length = ((ls.take i).flatten).length := by rw [ht]
            refine ⟨⟨by omega, by omega, ?_, ?_⟩, ⟨?_, by omega⟩, rfl⟩
            · simp only [List.length_append, List.length_drop, e1]; omega
            · rw [flat_step hil, ht, List.take_left' (by simp)]
            · rw [flat_step hil, List.length_append]
          · have hl3 : ls.take i = ls := List.take_of_length_le (by omega)
            rw [hl3] at ht
            have hf2 : full = ls.flatten := by rw [← ht, List.take_of_length_le (by omega)]
            subst hf2
            repeat' (first | with_reducible refine inw ?_ | simp (maxSteps := 900000) (disch := omega) only [go_sem, Nat.reduceEqDiff, ↓reduceIte, reduceCtorEq, Nat.reduceAdd, Nat.reduceMul, Int.reduceToNat, List.reduceReplicate, Nat.reduceLeDiff, Nat.reduceLT, Int.reduceLT, Int.reduceLE, Int.reduceEq, hl3] | with_reducible refine pickB_f ?_ | with_reducible refine giv_intro fun _h => ?_ | with_reducible refine alt_intro ?_ fun _h => ?_ | with_reducible refine pickD_nil ?_ | (with_reducible refine brc (fun _h => ?_) fun _h => ?_) <;> first | (exfalso; omega) | simp only [decide_eq_false _h] | simp only [(_h : (_ : Bool) = _)] | simp only [decide_eq_true _h] | skip)
end Go.Proofs.Ytpfoflhhbkjngaa.Ev

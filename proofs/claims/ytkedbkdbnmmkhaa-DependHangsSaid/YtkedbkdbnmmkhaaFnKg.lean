/- Far too much; how many heads and labels are alike; the law DependScores. -/
import Derived.Test.YtkedbkdbnmmkhaaFnKf
set_option linter.unusedVariables false
set_option linter.unusedSimpArgs false
namespace Go.Proofs.Ytkedbkdbnmmkhaa.Ev
open Go Go.Proofs

def TS (l : List Str) : Prop := l.length ≤ 140737488351232 ∧ ∀ s ∈ l, s.size ≤ 140737488351232
def TH (l : List Hung) : Prop := l.length ≤ 140737488351232 ∧ ∀ h ∈ l, TS h.1 ∧ h.2.2.size ≤ 140737488351232
def textI : List Str → Int → Int
  | [], n => n
  | s :: ss, n => if n ≤ 100000 then textI ss (IntKind.i64.wrap (n + s.size)) else n
theorem textI_stop (l : List Str) {n : Int} (h : ¬n ≤ 100000) : textI l n = n := by cases l <;> simp [textI, h]
def textN (l : List Str) : Int := textI l l.length
/-- ablaut/ablautlaw21.texts: 1 parameters, 0 captured -/
def s24 : SC := .seq (.reg [o1 2 (.mv (cI 0))])
  (.seq (.reg [o1 5 (.mv (.t 0)),
    o1 6 (.lenL (.t 5)),
    o1 3 (.mv (.t 6))])
   (.seq (.seq (.reg [o1 4 (.mv (cI 0))])
     (.block 0 (.loop (.seq (.seq (.reg [o1 7 (.mv (.t 4)),
          o1 8 (.mv (.t 0)),
          o1 9 (.lenL (.t 8)),
          o1 10 (.bin .lss (.t 7) (.t 9)),
          o1 11 (.mv (.t 10)),
          oT 12 (.mv (.t 3)) 11,
          oT 13 (.bin .leq (.t 12) (cI 100000)) 11,
          o1 14 (.pick (.t 11) (.t 13) (cB false))])
         (.cond (.t 14) (.skip) (.exit 0)))
        (.seq (.block 1 (.reg [o1 17 (.mv (.t 3)),
           o1 18 (.mv (.t 0)),
           o1 19 (.mv (.t 4)),
           o1 20 (.iaddr 1 (.t 18) (.t 19)),
           o1 21 (.load none (.t 20)),
           o1 22 (.lenS (.t 21)),
           o1 23 (.bin .add (.t 17) (.t 22)),
           o1 3 (.mv (.t 23))]))
         (.reg [o1 15 (.mv (.t 4)),
          o1 16 (.bin .add (.t 15) (cI 1)),
          o1 4 (.mv (.t 16))]))))))
    (.seq (.reg [o1 24 (.mv (.t 3)),
      o1 2 (.mv (.t 24))])
     (.ret))))
theorem s24_ok : lookF Try.prog 24 = some (s24, 25, [.tmp 2]) := by kernel_rfl
theorem texts_ok (l : List Str) : Fn P 24 [sl l] (intA (textN l)) := by
  unfold textN
  (refine fn_look s24_ok (by simp) (by intro k; simp only [go_sem, Nat.reduceEqDiff, ↓reduceIte, reduceCtorEq, Nat.reduceAdd, Nat.reduceMul, Int.reduceToNat, List.reduceReplicate, Nat.reduceLeDiff, Nat.reduceLT, Int.reduceLT, Int.reduceLE, Int.reduceEq]) fun S hS => cwp_sound _ _ _ _ ?_; simp (disch := omega) only [s24, go_sem, Nat.reduceEqDiff, ↓reduceIte, reduceCtorEq, Nat.reduceAdd, Nat.reduceMul, Int.reduceToNat, List.reduceReplicate, Nat.reduceLeDiff, Nat.reduceLT, Int.reduceLT, Int.reduceLE, Int.reduceEq])
  repeat' (first | with_reducible refine inw ?_ | simp (disch := omega) only [go_sem, Nat.reduceEqDiff, ↓reduceIte, reduceCtorEq, Nat.reduceAdd, Nat.reduceMul, Int.reduceToNat, List.reduceReplicate, Nat.reduceLeDiff, Nat.reduceLT, Int.reduceLT, Int.reduceLE, Int.reduceEq] | with_reducible refine giv_intro fun _h => ?_ | with_reducible refine alt_intro ?_ fun _h => ?_ | with_reducible refine pickD_nil ?_ | (with_reducible refine brc (fun _h => ?_) fun _h => ?_) <;> first | (exfalso; omega) | simp only [decide_eq_false _h] | simp only [(_h : (_ : Bool) = _)] | simp only [decide_eq_true _h] | skip)
  (refine loopC hS [0] (by simp only [go_sem, Nat.reduceEqDiff, ↓reduceIte, reduceCtorEq, Nat.reduceAdd, Nat.reduceMul, Int.reduceToNat, List.reduceReplicate, Nat.reduceLeDiff, Nat.reduceLT, Int.reduceLT, Int.reduceLE, Int.reduceEq]; try rfl) (fun (⟨i, n⟩ : Nat × Int) => [(3, intA n), (4, intA i)]) (fun (⟨i, n⟩ : Nat × Int) => []) (fun (⟨i, n⟩ : Nat × Int) => i ≤ l.length ∧ textI l l.length = textI (l.drop i) n) (fun (⟨i, n⟩ : Nat × Int) => l.length - i) ((0, (l.length : Int))) ?h01 ?hn1 ?rd1; case hn1 => (intro s; first | rfl | (rcases s with ⟨_, _⟩; rfl) | (rcases s with ⟨_, _, _⟩; rfl) | (rcases s with ⟨_, _, _, _⟩; rfl) | (rcases s with ⟨_, _, _, _, _⟩; rfl)))
  · simp (disch := omega) only [go_sem, Nat.reduceEqDiff, ↓reduceIte, reduceCtorEq, Nat.reduceAdd, Nat.reduceMul, Int.reduceToNat, List.reduceReplicate, Nat.reduceLeDiff, Nat.reduceLT, Int.reduceLT, Int.reduceLE, Int.reduceEq]; simp
  rintro ⟨i, n⟩ ⟨hi, hI⟩
  replace hi : i ≤ l.length := hi
  replace hI : textI l l.length = textI (l.drop i) n := hI
  by_cases hil : i < l.length
  · by_cases hn : n ≤ 100000
    · rw [nth_drop hil, textI, if_pos hn] at hI
      repeat' (first | with_reducible refine inw ?_ | simp (disch := omega) only [go_sem, Nat.reduceEqDiff, ↓reduceIte, reduceCtorEq, Nat.reduceAdd, Nat.reduceMul, Int.reduceToNat, List.reduceReplicate, Nat.reduceLeDiff, Nat.reduceLT, Int.reduceLT, Int.reduceLE, Int.reduceEq] | with_reducible refine giv_intro fun _h => ?_ | with_reducible refine alt_intro ?_ fun _h => ?_ | with_reducible refine pickD_nil ?_ | (with_reducible refine brc (fun _h => ?_) fun _h => ?_) <;> first | (exfalso; omega) | simp only [decide_eq_false _h] | simp only [(_h : (_ : Bool) = _)] | simp only [decide_eq_true _h] | skip)
      exact ⟨(i + 1, _), ⟨by omega, by omega, hI⟩, rfl, by omega⟩
    · rw [textI_stop _ hn] at hI
      rw [hI]
      repeat' (first | with_reducible refine inw ?_ | simp (disch := omega) only [go_sem, Nat.reduceEqDiff, ↓reduceIte, reduceCtorEq, Nat.reduceAdd, Nat.reduceMul, Int.reduceToNat, List.reduceReplicate, Nat.reduceLeDiff, Nat.reduceLT, Int.reduceLT, Int.reduceLE, Int.reduceEq] | with_reducible refine giv_intro fun _h => ?_ | with_reducible refine alt_intro ?_ fun _h => ?_ | with_reducible refine pickD_nil ?_ | (with_reducible refine brc (fun _h => ?_) fun _h => ?_) <;> first | (exfalso; omega) | simp only [decide_eq_false _h] | simp only [(_h : (_ : Bool) = _)] | simp only [decide_eq_true _h] | skip)
  · rw [List.drop_eq_nil_of_le (by omega), textI] at hI
    rw [hI]
    repeat' (first | with_reducible refine inw ?_ | simp (disch := omega) only [go_sem, Nat.reduceEqDiff, ↓reduceIte, reduceCtorEq, Nat.reduceAdd, Nat.reduceMul, Int.reduceToNat, List.reduceReplicate, Nat.reduceLeDiff, Nat.reduceLT, Int.reduceLT, Int.reduceLE, Int.reduceEq] | with_reducible refine giv_intro fun _h => ?_ | with_reducible refine alt_intro ?_ fun _h => ?_ | with_reducible refine pickD_nil ?_ | (with_reducible refine brc (fun _h => ?_) fun _h => ?_) <;> first | (exfalso; omega) | simp only [decide_eq_false _h] | simp only [(_h : (_ : Bool) = _)] | simp only [decide_eq_true _h] | skip)
def overI : List Hung → Int → Int
  | [], n => n
  | h :: hs, n => if n ≤ 100000 then overI hs (IntKind.i64.wrap (n + IntKind.i64.wrap (h.2.2.size + textN h.1))) else n
theorem overI_stop (l : List Hung) {n : Int} (h : ¬n ≤ 100000) : overI l n = n := by cases l <;> simp [overI, h]
def overB (l : List Hung) : Bool := decide (100000 < overI l l.length)
/-- ablaut/ablautlaw21.over: 1 parameters, 0 captured -/
def s12 : SC := .seq (.reg [o1 2 (.mv (cB false))])
  (.seq (.reg [o1 5 (.mv (.t 0)),
    o1 6 (.lenL (.t 5)),
    o1 3 (.mv (.t 6))])
   (.seq (.seq (.reg [o1 4 (.mv (cI 0))])
     (.block 0 (.loop (.seq (.seq (.reg [o1 7 (.mv (.t 4)),
          o1 8 (.mv (.t 0)),
          o1 9 (.lenL (.t 8)),
          o1 10 (.bin .lss (.t 7) (.t 9)),
          o1 11 (.mv (.t 10)),
          oT 12 (.mv (.t 3)) 11,
          oT 13 (.bin .leq (.t 12) (cI 100000)) 11,
          o1 14 (.pick (.t 11) (.t 13) (cB false))])
         (.cond (.t 14) (.skip) (.exit 0)))
        (.seq (.block 1 (.regD [o1 17 (.mv (.t 3)),
           o1 18 (.mv (.t 0)),
           o1 19 (.mv (.t 4)),
           o1 20 (.iaddr 3 (.t 18) (.t 19)),
           o1 21 (.faddr 2 (.t 20)),
           o1 22 (.load none (.t 21)),
           o1 23 (.lenS (.t 22)),
           o1 24 (.mv (.t 0)),
           o1 25 (.mv (.t 4)),
           o1 26 (.iaddr 3 (.t 24) (.t 25)),
           o1 27 (.faddr 0 (.t 26)),
           o1 28 (.load none (.t 27)),
           o1 29 (.call (.f 24) [(.t 28)]),
           o1 30 (.bin .add (.t 23) (.t 29)),
           o1 31 (.bin .add (.t 17) (.t 30)),
           o1 3 (.mv (.t 31))]))
         (.reg [o1 15 (.mv (.t 4)),
          o1 16 (.bin .add (.t 15) (cI 1)),
          o1 4 (.mv (.t 16))]))))))
    (.seq (.reg [o1 32 (.mv (.t 3)),
      o1 33 (.bin .gtr (.t 32) (cI 100000)),
      o1 2 (.mv (.t 33))])
     (.ret))))
theorem s12_ok : lookF Try.prog 12 = some (s12, 34, [.tmp 2]) := by kernel_rfl
theorem over_ok (l : List Hung) : Fn P 12 [sl l] (boolA (overB l)) := by
  unfold overB
  (refine fn_look s12_ok (by simp) (by intro k; simp only [go_sem, Nat.reduceEqDiff, ↓reduceIte, reduceCtorEq, Nat.reduceAdd, Nat.reduceMul, Int.reduceToNat, List.reduceReplicate, Nat.reduceLeDiff, Nat.reduceLT, Int.reduceLT, Int.reduceLE, Int.reduceEq]) fun S hS => cwp_sound _ _ _ _ ?_; simp (disch := omega) only [s12, go_sem, Nat.reduceEqDiff, ↓reduceIte, reduceCtorEq, Nat.reduceAdd, Nat.reduceMul, Int.reduceToNat, List.reduceReplicate, Nat.reduceLeDiff, Nat.reduceLT, Int.reduceLT, Int.reduceLE, Int.reduceEq])
  repeat' (first | with_reducible refine inw ?_ | simp (disch := omega) only [go_sem, Nat.reduceEqDiff, ↓reduceIte, reduceCtorEq, Nat.reduceAdd, Nat.reduceMul, Int.reduceToNat, List.reduceReplicate, Nat.reduceLeDiff, Nat.reduceLT, Int.reduceLT, Int.reduceLE, Int.reduceEq] | with_reducible refine giv_intro fun _h => ?_ | with_reducible refine alt_intro ?_ fun _h => ?_ | with_reducible refine pickD_nil ?_ | (with_reducible refine brc (fun _h => ?_) fun _h => ?_) <;> first | (exfalso; omega) | simp only [decide_eq_false _h] | simp only [(_h : (_ : Bool) = _)] | simp only [decide_eq_true _h] | skip)
  (refine loopC hS [0] (by simp only [go_sem, Nat.reduceEqDiff, ↓reduceIte, reduceCtorEq, Nat.reduceAdd, Nat.reduceMul, Int.reduceToNat, List.reduceReplicate, Nat.reduceLeDiff, Nat.reduceLT, Int.reduceLT, Int.reduceLE, Int.reduceEq]; try rfl) (fun (⟨i, n⟩ : Nat × Int) => [(3, intA n), (4, intA i)]) (fun (⟨i, n⟩ : Nat × Int) => []) (fun (⟨i, n⟩ : Nat × Int) => i ≤ l.length ∧ overI l l.length = overI (l.drop i) n) (fun (⟨i, n⟩ : Nat × Int) => l.length - i) ((0, (l.length : Int))) ?h02 ?hn2 ?rd2; case hn2 => (intro s; first | rfl | (rcases s with ⟨_, _⟩; rfl) | (rcases s with ⟨_, _, _⟩; rfl) | (rcases s with ⟨_, _, _, _⟩; rfl) | (rcases s with ⟨_, _, _, _, _⟩; rfl)))
  · simp (disch := omega) only [go_sem, Nat.reduceEqDiff, ↓reduceIte, reduceCtorEq, Nat.reduceAdd, Nat.reduceMul, Int.reduceToNat, List.reduceReplicate, Nat.reduceLeDiff, Nat.reduceLT, Int.reduceLT, Int.reduceLE, Int.reduceEq]; simp
  rintro ⟨i, n⟩ ⟨hi, hI⟩
  replace hi : i ≤ l.length := hi
  replace hI : overI l l.length = overI (l.drop i) n := hI
  by_cases hil : i < l.length
  · by_cases hn : n ≤ 100000
    · rw [nth_drop hil, overI, if_pos hn] at hI
      have c1 := texts_ok (nth l i).1
      repeat' (first | with_reducible refine inw ?_ | simp (disch := omega) only [go_sem, Nat.reduceEqDiff, ↓reduceIte, reduceCtorEq, Nat.reduceAdd, Nat.reduceMul, Int.reduceToNat, List.reduceReplicate, Nat.reduceLeDiff, Nat.reduceLT, Int.reduceLT, Int.reduceLE, Int.reduceEq] | (with_reducible apply call_D (c1)); (focus simp (disch := omega) only [go_sem, Nat.reduceEqDiff, ↓reduceIte, reduceCtorEq, Nat.reduceAdd, Nat.reduceMul, Int.reduceToNat, List.reduceReplicate, Nat.reduceLeDiff, Nat.reduceLT, Int.reduceLT, Int.reduceLE, Int.reduceEq] <;> rfl) | with_reducible refine giv_intro fun _h => ?_ | with_reducible refine alt_intro ?_ fun _h => ?_ | with_reducible refine pickD_nil ?_ | (with_reducible refine brc (fun _h => ?_) fun _h => ?_) <;> first | (exfalso; omega) | simp only [decide_eq_false _h] | simp only [(_h : (_ : Bool) = _)] | simp only [decide_eq_true _h] | skip)
      exact ⟨(i + 1, _), ⟨by omega, by omega, hI⟩, rfl, by omega⟩
    · rw [overI_stop _ hn] at hI
      rw [hI]
      repeat' (first | with_reducible refine inw ?_ | simp (disch := omega) only [go_sem, Nat.reduceEqDiff, ↓reduceIte, reduceCtorEq, Nat.reduceAdd, Nat.reduceMul, Int.reduceToNat, List.reduceReplicate, Nat.reduceLeDiff, Nat.reduceLT, Int.reduceLT, Int.reduceLE, Int.reduceEq] | with_reducible refine giv_intro fun _h => ?_ | with_reducible refine alt_intro ?_ fun _h => ?_ | with_reducible refine pickD_nil ?_ | (with_reducible refine brc (fun _h => ?_) fun _h => ?_) <;> first | (exfalso; omega) | simp only [decide_eq_false _h] | simp only [(_h : (_ : Bool) = _)] | simp only [decide_eq_true _h] | skip)
  · rw [List.drop_eq_nil_of_le (by omega), overI] at hI
    rw [hI]
    repeat' (first | with_reducible refine inw ?_ | simp (disch := omega) only [go_sem, Nat.reduceEqDiff, ↓reduceIte, reduceCtorEq, Nat.reduceAdd, Nat.reduceMul, Int.reduceToNat, List.reduceReplicate, Nat.reduceLeDiff, Nat.reduceLT, Int.reduceLT, Int.reduceLE, Int.reduceEq] | with_reducible refine giv_intro fun _h => ?_ | with_reducible refine alt_intro ?_ fun _h => ?_ | with_reducible refine pickD_nil ?_ | (with_reducible refine brc (fun _h => ?_) fun _h => ?_) <;> first | (exfalso; omega) | simp only [decide_eq_false _h] | simp only [(_h : (_ : Bool) = _)] | simp only [decide_eq_true _h] | skip)
theorem wrap_in {x : Int} (h0 : -9223372036854775808 ≤ x) (h1 : x ≤ 9223372036854775807) : IntKind.i64.wrap x = x := wrap_nat ⟨h0, h1⟩
theorem textI_le : ∀ (l : List Str) (n : Int), (∀ s ∈ l, s.size ≤ 140737488351232) → 0 ≤ n → n ≤ 140737488351232 → n ≤ textI l n ∧ textI l n ≤ 281474976802464 ∧ (textI l n ≤ 100000 → ∀ s ∈ l, s.size ≤ 100000)
  | [], n, hs, h0, h1 => by simp [textI]; omega
  | s :: ss, n, hs, h0, h1 => by
    have hz := hs s (by simp)
    rw [textI]
    split
    · rename_i hn
      rw [wrap_in (by omega) (by omega)]
      by_cases hb : n + s.size ≤ 140737488351232
      · obtain ⟨q1, q2, q3⟩ := textI_le ss (n + s.size) (fun x hx => hs x (by simp [hx])) (by omega) hb
        refine ⟨by omega, q2, fun h x hx => ?_⟩
        rcases List.mem_cons.1 hx with rfl | hx
        · omega
        · exact q3 h x hx
      · rw [textI_stop _ (by omega)]
        exact ⟨by omega, by omega, fun h => by omega⟩
    · rename_i hn
      exact ⟨by omega, by omega, fun h => absurd h hn⟩
theorem textN_le {l : List Str} (h : TS l) : 0 ≤ textN l ∧ textN l ≤ 281474976802464 ∧ (textN l ≤ 100000 → SmS l) := by
  obtain ⟨q1, q2, q3⟩ := textI_le l l.length h.2 (by omega) (by have := h.1; omega)
  exact ⟨by unfold textN; omega, q2, fun h => ⟨by unfold textN at h; omega, q3 h⟩⟩
theorem overI_le : ∀ (l : List Hung) (n : Int), (∀ h ∈ l, TS h.1 ∧ h.2.2.size ≤ 140737488351232) → 0 ≤ n → n ≤ 1000000000000000000 → n ≤ overI l n ∧ (overI l n ≤ 100000 → ∀ h ∈ l, h.2.2.size ≤ 100000 ∧ SmS h.1)
  | [], n, hs, h0, h1 => by simp [overI]
  | h :: hh, n, hs, h0, h1 => by
    obtain ⟨hz1, hz2⟩ := hs h (by simp)
    obtain ⟨t1, t2, t3⟩ := textN_le hz1
    rw [overI]
    split
    · rename_i hn
      rw [wrap_in (x := h.2.2.size + textN h.1) (by omega) (by omega), wrap_in (by omega) (by omega)]
      obtain ⟨q1, q3⟩ := overI_le hh (n + (h.2.2.size + textN h.1)) (fun x hx => hs x (by simp [hx])) (by omega) (by omega)
      refine ⟨by omega, fun hle x hx => ?_⟩
      rcases List.mem_cons.1 hx with rfl | hx
      · exact ⟨by omega, t3 (by omega)⟩
      · exact q3 hle x hx
    · rename_i hn
      exact ⟨by omega, fun h => absurd h hn⟩
theorem over_sm {l : List Hung} (h : TH l) (ho : overB l = false) : SmH l := by
  have ho := of_decide_eq_false ho
  obtain ⟨q1, q3⟩ := overI_le l l.length h.2 (by omega) (by have := h.1; omega)
  exact ⟨by omega, q3 (by omega)⟩

/-! ### Score -/
def scoreF : List Hung → List Hung → Int → Int → Int × Int
  | x :: a, y :: b, m, n => if x.2.1 = y.2.1 then scoreF a b (m + 1) (if x.2.2 = y.2.2 then n + 1 else n) else scoreF a b m n
  | _, _, m, n => (m, n)
theorem scoreF_nil (b : List Hung) (m n : Int) : scoreF [] b m n = (m, n) := by cases b <;> rfl
def scoreT (a b : List Hung) : Int × Int × Int := if valE a ≠ 0 then (0, 0, valE a) else if valE b ≠ 0 then (0, 0, valE b) else if a.length ≠ b.length then (0, 0, 10) else ((scoreF a b 0 0).1, (scoreF a b 0 0).2, 0)
abbrev tri (t : Int × Int × Int) : AV := .tup [intA t.1, intA t.2.1, intA t.2.2]
/-- ablaut/depend.Score: 2 parameters, 0 captured -/
def s19 : SC := .seq (.reg [o1 4 (.mv (cI 0)),
   o1 5 (.mv (cI 0)),
   o1 6 (.mv (cI 0))])
  (.seq (.seq (.reg [o1 13 (.mv (.t 0)),
     o1 14 (.mv (.t 1)),
     o1 15 (.buildSl 23 1 2 [(.slice none 0 0)] [(0, 1, (.t 13)), (1, 1, (.t 14))]),
     o1 16 (.lenL (.t 15)),
     o1 17 (.mv (cI 0))])
    (.block 0 (.loop (.seq (.reg [o1 18 (.bin .lss (.t 17) (.t 16))])
       (.seq (.cond (.t 18) (.skip) (.exit 0))
        (.seq (.block 1 (.seq (.reg [o1 19 (.iaddr 1 (.t 15) (.t 17)),
            o1 20 (.load none (.t 19)),
            o1 8 (.mv (.t 20))])
           (.seq (.reg [o1 21 (.mv (.t 8)),
             o1 22 (.call (.f 37) [(.t 21)]),
             o1 9 (.mv (.t 22))])
            (.seq (.reg [o1 23 (.mv (.t 9)),
              o1 24 (.bin .neq (.t 23) (cI 0))])
             (.cond (.t 24) (.seq (.reg [o1 25 (.mv (.t 9)),
                o1 4 (.mv (cI 0)),
                o1 5 (.mv (cI 0)),
                o1 6 (.mv (.t 25))])
               (.ret)) (.skip))))))
         (.reg [o1 26 (.bin .add (.t 17) (cI 1)),
          o1 17 (.mv (.t 26))])))))))
   (.seq (.seq (.reg [o1 27 (.mv (.t 0)),
      o1 28 (.lenL (.t 27)),
      o1 29 (.mv (.t 1)),
      o1 30 (.lenL (.t 29)),
      o1 31 (.bin .neq (.t 28) (.t 30))])
     (.cond (.t 31) (.seq (.reg [o1 4 (.mv (cI 0)),
        o1 5 (.mv (cI 0)),
        o1 6 (.mv (cI 10))])
       (.ret)) (.skip)))
    (.seq (.reg [o1 10 (.mv (cI 0)),
      o1 11 (.mv (cI 0))])
     (.seq (.seq (.reg [o1 32 (.mv (.t 0)),
        o1 33 (.lenL (.t 32)),
        o1 34 (.mv (cI 0))])
       (.block 2 (.loop (.seq (.reg [o1 35 (.bin .lss (.t 34) (.t 33))])
          (.seq (.cond (.t 35) (.skip) (.exit 2))
           (.seq (.block 3 (.seq (.reg [o1 36 (.mv (.t 34)),
               o1 12 (.mv (.t 36))])
              (.seq (.seq (.regD [o1 37 (.mv (.t 0)),
                 o1 38 (.mv (.t 12)),
                 o1 39 (.iaddr 3 (.t 37) (.t 38)),
                 o1 40 (.faddr 1 (.t 39)),
                 o1 41 (.load none (.t 40)),
                 o1 42 (.mv (.t 1)),
                 o1 43 (.mv (.t 12)),
                 o1 44 (.iaddr 3 (.t 42) (.t 43)),
                 o1 45 (.faddr 1 (.t 44)),
                 o1 46 (.load none (.t 45)),
                 o1 47 (.bin .neq (.t 41) (.t 46))])
                (.cond (.t 47) (.exit 3) (.skip)))
               (.seq (.reg [o1 48 (.mv (.t 10)),
                 o1 49 (.bin .add (.t 48) (cI 1)),
                 o1 10 (.mv (.t 49))])
                (.seq (.regD [o1 50 (.mv (.t 0)),
                  o1 51 (.mv (.t 12)),
                  o1 52 (.iaddr 3 (.t 50) (.t 51)),
                  o1 53 (.faddr 2 (.t 52)),
                  o1 54 (.load none (.t 53)),
                  o1 55 (.mv (.t 1)),
                  o1 56 (.mv (.t 12)),
                  o1 57 (.iaddr 3 (.t 55) (.t 56)),
                  o1 58 (.faddr 2 (.t 57)),
                  o1 59 (.load none (.t 58)),
                  o1 60 (.bin .eql (.t 54) (.t 59))])
                 (.cond (.t 60) (.reg [o1 61 (.mv (.t 11)),
                   o1 62 (.bin .add (.t 61) (cI 1)),
                   o1 11 (.mv (.t 62))]) (.skip)))))))
            (.reg [o1 63 (.bin .add (.t 34) (cI 1)),
             o1 34 (.mv (.t 63))])))))))
      (.seq (.reg [o1 64 (.mv (.t 10)),
        o1 65 (.mv (.t 11)),
        o1 4 (.mv (.t 64)),
        o1 5 (.mv (.t 65)),
        o1 6 (.mv (cI 0))])
       (.ret))))))
theorem s19_ok : lookF Try.prog 19 = some (s19, 66, [.tmp 4, .tmp 5, .tmp 6]) := by kernel_rfl
set_option maxHeartbeats 1000000 in
theorem score_ok (a b : List Hung) (ha : SmH a) (hb : SmH b) : Fn P 19 [sl a, sl b] (tri (scoreT a b)) := by
  have c1 := validate_ok a ha
  have c2 := validate_ok b hb
  (refine fn_look s19_ok (by simp) (by intro k; simp only [go_sem, Nat.reduceEqDiff, ↓reduceIte, reduceCtorEq, Nat.reduceAdd, Nat.reduceMul, Int.reduceToNat, List.reduceReplicate, Nat.reduceLeDiff, Nat.reduceLT, Int.reduceLT, Int.reduceLE, Int.reduceEq]) fun S hS => cwp_sound _ _ _ _ ?_; simp (disch := omega) only [s19, go_sem, Nat.reduceEqDiff, ↓reduceIte, reduceCtorEq, Nat.reduceAdd, Nat.reduceMul, Int.reduceToNat, List.reduceReplicate, Nat.reduceLeDiff, Nat.reduceLT, Int.reduceLT, Int.reduceLE, Int.reduceEq])
  repeat' (first | with_reducible refine inw ?_ | simp (disch := omega) only [go_sem, Nat.reduceEqDiff, ↓reduceIte, reduceCtorEq, Nat.reduceAdd, Nat.reduceMul, Int.reduceToNat, List.reduceReplicate, Nat.reduceLeDiff, Nat.reduceLT, Int.reduceLT, Int.reduceLE, Int.reduceEq] | with_reducible refine giv_intro fun _h => ?_ | with_reducible refine alt_intro ?_ fun _h => ?_ | with_reducible refine pickD_nil ?_ | (with_reducible refine brc (fun _h => ?_) fun _h => ?_) <;> first | (exfalso; omega) | simp only [decide_eq_false _h] | simp only [(_h : (_ : Bool) = _)] | simp only [decide_eq_true _h] | skip)
  (refine loopC hS [0, 1, 15, 16] (by simp only [go_sem, Nat.reduceEqDiff, ↓reduceIte, reduceCtorEq, Nat.reduceAdd, Nat.reduceMul, Int.reduceToNat, List.reduceReplicate, Nat.reduceLeDiff, Nat.reduceLT, Int.reduceLT, Int.reduceLE, Int.reduceEq]; try rfl) (fun (i : Nat) => [(17, intA i)]) (fun (i : Nat) => [some (.row 23 1 [sl a, sl b])]) (fun (i : Nat) => i ≤ 2 ∧ (1 ≤ i → valE a = 0) ∧ (2 ≤ i → valE b = 0)) (fun (i : Nat) => 2 - i) (0) ?h03 ?hn3 ?rd3; case hn3 => (intro s; first | rfl | (rcases s with ⟨_, _⟩; rfl) | (rcases s with ⟨_, _, _⟩; rfl) | (rcases s with ⟨_, _, _, _⟩; rfl) | (rcases s with ⟨_, _, _, _, _⟩; rfl)))
  · simp (disch := omega) only [go_sem, Nat.reduceEqDiff, ↓reduceIte, reduceCtorEq, Nat.reduceAdd, Nat.reduceMul, Int.reduceToNat, List.reduceReplicate, Nat.reduceLeDiff, Nat.reduceLT, Int.reduceLT, Int.reduceLE, Int.reduceEq]
  rintro i ⟨hi, h1, h2⟩
  replace hi : i ≤ 2 := hi
  replace h1 : 1 ≤ i → valE a = 0 := h1
  replace h2 : 2 ≤ i → valE b = 0 := h2
  have hc : i = 0 ∨ i = 1 ∨ i = 2 := by omega
  rcases hc with rfl | rfl | rfl
  · repeat' (first | with_reducible refine inw ?_ | simp (disch := omega) only [go_sem, Nat.reduceEqDiff, ↓reduceIte, reduceCtorEq, Nat.reduceAdd, Nat.reduceMul, Int.reduceToNat, List.reduceReplicate, Nat.reduceLeDiff, Nat.reduceLT, Int.reduceLT, Int.reduceLE, Int.reduceEq] | (with_reducible apply call (c1)); (focus simp (disch := omega) only [go_sem, Nat.reduceEqDiff, ↓reduceIte, reduceCtorEq, Nat.reduceAdd, Nat.reduceMul, Int.reduceToNat, List.reduceReplicate, Nat.reduceLeDiff, Nat.reduceLT, Int.reduceLT, Int.reduceLE, Int.reduceEq] <;> rfl) | with_reducible refine giv_intro fun _h => ?_ | with_reducible refine alt_intro ?_ fun _h => ?_ | with_reducible refine pickD_nil ?_ | (with_reducible refine brc (fun _h => ?_) fun _h => ?_) <;> first | (exfalso; omega) | simp only [decide_eq_false _h] | simp only [(_h : (_ : Bool) = _)] | simp only [decide_eq_true _h] | skip)
    · rw [scoreT, if_pos _h]
    · exact ⟨1, ⟨by omega, by omega, fun _ => by omega, fun h => by omega⟩, rfl⟩
  · have h1 := h1 (by omega)
    repeat' (first | with_reducible refine inw ?_ | simp (disch := omega) only [go_sem, Nat.reduceEqDiff, ↓reduceIte, reduceCtorEq, Nat.reduceAdd, Nat.reduceMul, Int.reduceToNat, List.reduceReplicate, Nat.reduceLeDiff, Nat.reduceLT, Int.reduceLT, Int.reduceLE, Int.reduceEq] | (with_reducible apply call (c2)); (focus simp (disch := omega) only [go_sem, Nat.reduceEqDiff, ↓reduceIte, reduceCtorEq, Nat.reduceAdd, Nat.reduceMul, Int.reduceToNat, List.reduceReplicate, Nat.reduceLeDiff, Nat.reduceLT, Int.reduceLT, Int.reduceLE, Int.reduceEq] <;> rfl) | with_reducible refine giv_intro fun _h => ?_ | with_reducible refine alt_intro ?_ fun _h => ?_ | with_reducible refine pickD_nil ?_ | (with_reducible refine brc (fun _h => ?_) fun _h => ?_) <;> first | (exfalso; omega) | simp only [decide_eq_false _h] | simp only [(_h : (_ : Bool) = _)] | simp only [decide_eq_true _h] | skip)
    · rw [scoreT, if_neg (by omega), if_pos _h]
    · exact ⟨2, ⟨by omega, by omega, fun _ => h1, fun h => by omega⟩, rfl⟩
  · have h1 := h1 (by omega)
    have h2 := h2 (by omega)
    have hlb := ha.1
    by_cases hlen : a.length = b.length
    · rw [scoreT, if_neg (by omega), if_neg (by omega), if_neg (by omega)]
      repeat' (first | with_reducible refine inw ?_ | simp (disch := omega) only [go_sem, Nat.reduceEqDiff, ↓reduceIte, reduceCtorEq, Nat.reduceAdd, Nat.reduceMul, Int.reduceToNat, List.reduceReplicate, Nat.reduceLeDiff, Nat.reduceLT, Int.reduceLT, Int.reduceLE, Int.reduceEq] | with_reducible refine giv_intro fun _h => ?_ | with_reducible refine alt_intro ?_ fun _h => ?_ | with_reducible refine pickD_nil ?_ | (with_reducible refine brc (fun _h => ?_) fun _h => ?_) <;> first | (exfalso; omega) | simp only [decide_eq_false _h] | simp only [(_h : (_ : Bool) = _)] | simp only [decide_eq_true _h] | skip)
      (refine loopC hS [0, 1, 33] (by simp only [go_sem, Nat.reduceEqDiff, ↓reduceIte, reduceCtorEq, Nat.reduceAdd, Nat.reduceMul, Int.reduceToNat, List.reduceReplicate, Nat.reduceLeDiff, Nat.reduceLT, Int.reduceLT, Int.reduceLE, Int.reduceEq]; try rfl) (fun (⟨i, m, n⟩ : Nat × Nat × Nat) => [(10, intA m), (11, intA n), (34, intA i)]) (fun (⟨i, m, n⟩ : Nat × Nat × Nat) => [none]) (fun (⟨i, m, n⟩ : Nat × Nat × Nat) => i ≤ a.length ∧ m ≤ i ∧ n ≤ i ∧ scoreF a b 0 0 = scoreF (a.drop i) (b.drop i) m n) (fun (⟨i, m, n⟩ : Nat × Nat × Nat) => a.length - i) ((0, 0, 0)) ?h04 ?hn4 ?rd4; case hn4 => (intro s; first | rfl | (rcases s with ⟨_, _⟩; rfl) | (rcases s with ⟨_, _, _⟩; rfl) | (rcases s with ⟨_, _, _, _⟩; rfl) | (rcases s with ⟨_, _, _, _, _⟩; rfl)))
      · simp (disch := omega) only [go_sem, Nat.reduceEqDiff, ↓reduceIte, reduceCtorEq, Nat.reduceAdd, Nat.reduceMul, Int.reduceToNat, List.reduceReplicate, Nat.reduceLeDiff, Nat.reduceLT, Int.reduceLT, Int.reduceLE, Int.reduceEq]; simp
      rintro ⟨i, m, n⟩ ⟨hi, hm, hn, hI⟩
      replace hi : i ≤ a.length := hi
      replace hm : m ≤ i := hm
      replace hn : n ≤ i := hn
      replace hI : scoreF a b 0 0 = scoreF (a.drop i) (b.drop i) m n := hI
      by_cases hil : i < a.length
      · have hib : i < b.length := by omega
        rw [nth_drop hil, nth_drop hib, scoreF] at hI
        repeat' (first | with_reducible refine inw ?_ | simp (disch := omega) only [go_sem, Nat.reduceEqDiff, ↓reduceIte, reduceCtorEq, Nat.reduceAdd, Nat.reduceMul, Int.reduceToNat, List.reduceReplicate, Nat.reduceLeDiff, Nat.reduceLT, Int.reduceLT, Int.reduceLE, Int.reduceEq] | with_reducible refine giv_intro fun _h => ?_ | with_reducible refine alt_intro ?_ fun _h => ?_ | with_reducible refine pickD_nil ?_ | (with_reducible refine brc (fun _h => ?_) fun _h => ?_) <;> first | (exfalso; omega) | simp only [decide_eq_false _h] | simp only [(_h : (_ : Bool) = _)] | simp only [decide_eq_true _h] | skip)
        all_goals first
          | (rw [if_neg _h] at hI; refine ⟨(i + 1, m, n), ?_⟩; dsimp only; exact ⟨⟨by omega, by omega, by omega, by omega, hI⟩, rfl, rfl, by omega⟩)
          | (rw [if_pos (by assumption), if_pos _h] at hI; refine ⟨(i + 1, m + 1, n + 1), ?_⟩; dsimp only; exact ⟨⟨by omega, by omega, by omega, by omega, hI⟩, by omega, by omega, by omega⟩)
          | (rw [if_pos (by assumption), if_neg _h] at hI; refine ⟨(i + 1, m + 1, n), ?_⟩; dsimp only; exact ⟨⟨by omega, by omega, by omega, by omega, hI⟩, by omega, rfl, by omega⟩)
      · rw [List.drop_eq_nil_of_le (by omega), scoreF_nil] at hI
        rw [hI]
        repeat' (first | with_reducible refine inw ?_ | simp (disch := omega) only [go_sem, Nat.reduceEqDiff, ↓reduceIte, reduceCtorEq, Nat.reduceAdd, Nat.reduceMul, Int.reduceToNat, List.reduceReplicate, Nat.reduceLeDiff, Nat.reduceLT, Int.reduceLT, Int.reduceLE, Int.reduceEq] | with_reducible refine giv_intro fun _h => ?_ | with_reducible refine alt_intro ?_ fun _h => ?_ | with_reducible refine pickD_nil ?_ | (with_reducible refine brc (fun _h => ?_) fun _h => ?_) <;> first | (exfalso; omega) | simp only [decide_eq_false _h] | simp only [(_h : (_ : Bool) = _)] | simp only [decide_eq_true _h] | skip)
    · rw [scoreT, if_neg (by omega), if_neg (by omega), if_pos hlen]
      repeat' (first | with_reducible refine inw ?_ | simp (disch := omega) only [go_sem, Nat.reduceEqDiff, ↓reduceIte, reduceCtorEq, Nat.reduceAdd, Nat.reduceMul, Int.reduceToNat, List.reduceReplicate, Nat.reduceLeDiff, Nat.reduceLT, Int.reduceLT, Int.reduceLE, Int.reduceEq] | with_reducible refine giv_intro fun _h => ?_ | with_reducible refine alt_intro ?_ fun _h => ?_ | with_reducible refine pickD_nil ?_ | (with_reducible refine brc (fun _h => ?_) fun _h => ?_) <;> first | (exfalso; omega) | simp only [decide_eq_false _h] | simp only [(_h : (_ : Bool) = _)] | simp only [decide_eq_true _h] | skip)
/-- ablaut/ablautref21.Score: 2 parameters, 0 captured -/
def s20 : SC := .seq (.reg [o1 4 (.mv (cI 0)),
   o1 5 (.mv (cI 0)),
   o1 6 (.mv (cI 0))])
  (.seq (.seq (.reg [o1 12 (.mv (.t 0)),
     o1 13 (.call (.f 45) [(.t 12)]),
     o1 7 (.mv (.t 13))])
    (.seq (.reg [o1 14 (.mv (.t 7)),
      o1 15 (.bin .neq (.t 14) (cI 0))])
     (.cond (.t 15) (.seq (.reg [o1 16 (.mv (.t 7)),
        o1 4 (.mv (cI 0)),
        o1 5 (.mv (cI 0)),
        o1 6 (.mv (.t 16))])
       (.ret)) (.skip))))
   (.seq (.seq (.reg [o1 17 (.mv (.t 1)),
      o1 18 (.call (.f 45) [(.t 17)]),
      o1 8 (.mv (.t 18))])
     (.seq (.reg [o1 19 (.mv (.t 8)),
       o1 20 (.bin .neq (.t 19) (cI 0))])
      (.cond (.t 20) (.seq (.reg [o1 21 (.mv (.t 8)),
         o1 4 (.mv (cI 0)),
         o1 5 (.mv (cI 0)),
         o1 6 (.mv (.t 21))])
        (.ret)) (.skip))))
    (.seq (.seq (.reg [o1 22 (.mv (.t 0)),
       o1 23 (.lenL (.t 22)),
       o1 24 (.mv (.t 1)),
       o1 25 (.lenL (.t 24)),
       o1 26 (.bin .neq (.t 23) (.t 25))])
      (.cond (.t 26) (.seq (.reg [o1 4 (.mv (cI 0)),
         o1 5 (.mv (cI 0)),
         o1 6 (.mv (cI 10))])
        (.ret)) (.skip)))
     (.seq (.reg [o1 9 (.mv (cI 0)),
       o1 10 (.mv (cI 0))])
      (.seq (.seq (.reg [o1 11 (.mv (cI 0))])
        (.block 0 (.loop (.seq (.seq (.reg [o1 27 (.mv (.t 11)),
             o1 28 (.mv (.t 0)),
             o1 29 (.lenL (.t 28)),
             o1 30 (.bin .lss (.t 27) (.t 29))])
            (.cond (.t 30) (.skip) (.exit 0)))
           (.seq (.block 1 (.seq (.regD [o1 33 (.mv (.t 0)),
               o1 34 (.mv (.t 11)),
               o1 35 (.iaddr 3 (.t 33) (.t 34)),
               o1 36 (.faddr 1 (.t 35)),
               o1 37 (.load none (.t 36)),
               o1 38 (.mv (.t 1)),
               o1 39 (.mv (.t 11)),
               o1 40 (.iaddr 3 (.t 38) (.t 39)),
               o1 41 (.faddr 1 (.t 40)),
               o1 42 (.load none (.t 41)),
               o1 43 (.bin .eql (.t 37) (.t 42))])
              (.cond (.t 43) (.seq (.reg [o1 44 (.mv (.t 9)),
                 o1 45 (.bin .add (.t 44) (cI 1)),
                 o1 9 (.mv (.t 45))])
                (.seq (.regD [o1 46 (.mv (.t 0)),
                  o1 47 (.mv (.t 11)),
                  o1 48 (.iaddr 3 (.t 46) (.t 47)),
                  o1 49 (.faddr 2 (.t 48)),
                  o1 50 (.load none (.t 49)),
                  o1 51 (.mv (.t 1)),
                  o1 52 (.mv (.t 11)),
                  o1 53 (.iaddr 3 (.t 51) (.t 52)),
                  o1 54 (.faddr 2 (.t 53)),
                  o1 55 (.load none (.t 54)),
                  o1 56 (.bin .eql (.t 50) (.t 55))])
                 (.cond (.t 56) (.reg [o1 57 (.mv (.t 10)),
                   o1 58 (.bin .add (.t 57) (cI 1)),
                   o1 10 (.mv (.t 58))]) (.skip)))) (.skip))))
            (.reg [o1 31 (.mv (.t 11)),
             o1 32 (.bin .add (.t 31) (cI 1)),
             o1 11 (.mv (.t 32))]))))))
       (.seq (.reg [o1 59 (.mv (.t 9)),
         o1 60 (.mv (.t 10)),
         o1 4 (.mv (.t 59)),
         o1 5 (.mv (.t 60)),
         o1 6 (.mv (cI 0))])
        (.ret)))))))
theorem s20_ok : lookF Try.prog 20 = some (s20, 61, [.tmp 4, .tmp 5, .tmp 6]) := by kernel_rfl
set_option maxHeartbeats 1000000 in
theorem rScore_ok (a b : List Hung) (ha : SmH a) (hb : SmH b) : Fn P 20 [sl a, sl b] (tri (scoreT a b)) := by
  have c1 := rValidate_ok a ha
  have c2 := rValidate_ok b hb
  have hlb := ha.1
  by_cases h1 : valE a = 0
  · by_cases h2 : valE b = 0
    · by_cases hlen : a.length = b.length
      · rw [scoreT, if_neg (by omega), if_neg (by omega), if_neg (by omega)]
        (refine fn_look s20_ok (by simp) (by intro k; simp only [go_sem, Nat.reduceEqDiff, ↓reduceIte, reduceCtorEq, Nat.reduceAdd, Nat.reduceMul, Int.reduceToNat, List.reduceReplicate, Nat.reduceLeDiff, Nat.reduceLT, Int.reduceLT, Int.reduceLE, Int.reduceEq]) fun S hS => cwp_sound _ _ _ _ ?_; simp (disch := omega) only [s20, go_sem, Nat.reduceEqDiff, ↓reduceIte, reduceCtorEq, Nat.reduceAdd, Nat.reduceMul, Int.reduceToNat, List.reduceReplicate, Nat.reduceLeDiff, Nat.reduceLT, Int.reduceLT, Int.reduceLE, Int.reduceEq])
        repeat' (first | with_reducible refine inw ?_ | simp (disch := omega) only [go_sem, Nat.reduceEqDiff, ↓reduceIte, reduceCtorEq, Nat.reduceAdd, Nat.reduceMul, Int.reduceToNat, List.reduceReplicate, Nat.reduceLeDiff, Nat.reduceLT, Int.reduceLT, Int.reduceLE, Int.reduceEq] | (with_reducible apply call (c1)); (focus simp (disch := omega) only [go_sem, Nat.reduceEqDiff, ↓reduceIte, reduceCtorEq, Nat.reduceAdd, Nat.reduceMul, Int.reduceToNat, List.reduceReplicate, Nat.reduceLeDiff, Nat.reduceLT, Int.reduceLT, Int.reduceLE, Int.reduceEq] <;> rfl) | (with_reducible apply call (c2)); (focus simp (disch := omega) only [go_sem, Nat.reduceEqDiff, ↓reduceIte, reduceCtorEq, Nat.reduceAdd, Nat.reduceMul, Int.reduceToNat, List.reduceReplicate, Nat.reduceLeDiff, Nat.reduceLT, Int.reduceLT, Int.reduceLE, Int.reduceEq] <;> rfl) | with_reducible refine giv_intro fun _h => ?_ | with_reducible refine alt_intro ?_ fun _h => ?_ | with_reducible refine pickD_nil ?_ | (with_reducible refine brc (fun _h => ?_) fun _h => ?_) <;> first | (exfalso; omega) | simp only [decide_eq_false _h] | simp only [(_h : (_ : Bool) = _)] | simp only [decide_eq_true _h] | skip)
        (refine loopC hS [0, 1] (by simp only [go_sem, Nat.reduceEqDiff, ↓reduceIte, reduceCtorEq, Nat.reduceAdd, Nat.reduceMul, Int.reduceToNat, List.reduceReplicate, Nat.reduceLeDiff, Nat.reduceLT, Int.reduceLT, Int.reduceLE, Int.reduceEq]; try rfl) (fun (⟨i, m, n⟩ : Nat × Nat × Nat) => [(9, intA m), (10, intA n), (11, intA i)]) (fun (⟨i, m, n⟩ : Nat × Nat × Nat) => []) (fun (⟨i, m, n⟩ : Nat × Nat × Nat) => i ≤ a.length ∧ m ≤ i ∧ n ≤ i ∧ scoreF a b 0 0 = scoreF (a.drop i) (b.drop i) m n) (fun (⟨i, m, n⟩ : Nat × Nat × Nat) => a.length - i) ((0, 0, 0)) ?h05 ?hn5 ?rd5; case hn5 => (intro s; first | rfl | (rcases s with ⟨_, _⟩; rfl) | (rcases s with ⟨_, _, _⟩; rfl) | (rcases s with ⟨_, _, _, _⟩; rfl) | (rcases s with ⟨_, _, _, _, _⟩; rfl)))
        · simp (disch := omega) only [go_sem, Nat.reduceEqDiff, ↓reduceIte, reduceCtorEq, Nat.reduceAdd, Nat.reduceMul, Int.reduceToNat, List.reduceReplicate, Nat.reduceLeDiff, Nat.reduceLT, Int.reduceLT, Int.reduceLE, Int.reduceEq]; simp
        rintro ⟨i, m, n⟩ ⟨hi, hm, hn, hI⟩
        replace hi : i ≤ a.length := hi
        replace hm : m ≤ i := hm
        replace hn : n ≤ i := hn
        replace hI : scoreF a b 0 0 = scoreF (a.drop i) (b.drop i) m n := hI
        by_cases hil : i < a.length
        · have hib : i < b.length := by omega
          rw [nth_drop hil, nth_drop hib, scoreF] at hI
          repeat' (first | with_reducible refine inw ?_ | simp (disch := omega) only [go_sem, Nat.reduceEqDiff, ↓reduceIte, reduceCtorEq, Nat.reduceAdd, Nat.reduceMul, Int.reduceToNat, List.reduceReplicate, Nat.reduceLeDiff, Nat.reduceLT, Int.reduceLT, Int.reduceLE, Int.reduceEq] | with_reducible refine giv_intro fun _h => ?_ | with_reducible refine alt_intro ?_ fun _h => ?_ | with_reducible refine pickD_nil ?_ | (with_reducible refine brc (fun _h => ?_) fun _h => ?_) <;> first | (exfalso; omega) | simp only [decide_eq_false _h] | simp only [(_h : (_ : Bool) = _)] | simp only [decide_eq_true _h] | skip)
          all_goals first
            | (rw [if_neg _h] at hI; refine ⟨(i + 1, m, n), ?_⟩; dsimp only; exact ⟨⟨by omega, by omega, by omega, by omega, hI⟩, rfl, rfl, by omega⟩)
            | (rw [if_pos (by assumption), if_pos _h] at hI; refine ⟨(i + 1, m + 1, n + 1), ?_⟩; dsimp only; exact ⟨⟨by omega, by omega, by omega, by omega, hI⟩, by omega, by omega, by omega⟩)
            | (rw [if_pos (by assumption), if_neg _h] at hI; refine ⟨(i + 1, m + 1, n), ?_⟩; dsimp only; exact ⟨⟨by omega, by omega, by omega, by omega, hI⟩, by omega, rfl, by omega⟩)
        · rw [List.drop_eq_nil_of_le (by omega), scoreF_nil] at hI
          rw [hI]
          repeat' (first | with_reducible refine inw ?_ | simp (disch := omega) only [go_sem, Nat.reduceEqDiff, ↓reduceIte, reduceCtorEq, Nat.reduceAdd, Nat.reduceMul, Int.reduceToNat, List.reduceReplicate, Nat.reduceLeDiff, Nat.reduceLT, Int.reduceLT, Int.reduceLE, Int.reduceEq] | with_reducible refine giv_intro fun _h => ?_ | with_reducible refine alt_intro ?_ fun _h => ?_ | with_reducible refine pickD_nil ?_ | (with_reducible refine brc (fun _h => ?_) fun _h => ?_) <;> first | (exfalso; omega) | simp only [decide_eq_false _h] | simp only [(_h : (_ : Bool) = _)] | simp only [decide_eq_true _h] | skip)
      · rw [scoreT, if_neg (by omega), if_neg (by omega), if_pos hlen]
        (refine fn_look s20_ok (by simp) (by intro k; simp only [go_sem, Nat.reduceEqDiff, ↓reduceIte, reduceCtorEq, Nat.reduceAdd, Nat.reduceMul, Int.reduceToNat, List.reduceReplicate, Nat.reduceLeDiff, Nat.reduceLT, Int.reduceLT, Int.reduceLE, Int.reduceEq]) fun S hS => cwp_sound _ _ _ _ ?_; simp (disch := omega) only [s20, go_sem, Nat.reduceEqDiff, ↓reduceIte, reduceCtorEq, Nat.reduceAdd, Nat.reduceMul, Int.reduceToNat, List.reduceReplicate, Nat.reduceLeDiff, Nat.reduceLT, Int.reduceLT, Int.reduceLE, Int.reduceEq])
        repeat' (first | with_reducible refine inw ?_ | simp (disch := omega) only [go_sem, Nat.reduceEqDiff, ↓reduceIte, reduceCtorEq, Nat.reduceAdd, Nat.reduceMul, Int.reduceToNat, List.reduceReplicate, Nat.reduceLeDiff, Nat.reduceLT, Int.reduceLT, Int.reduceLE, Int.reduceEq] | (with_reducible apply call (c1)); (focus simp (disch := omega) only [go_sem, Nat.reduceEqDiff, ↓reduceIte, reduceCtorEq, Nat.reduceAdd, Nat.reduceMul, Int.reduceToNat, List.reduceReplicate, Nat.reduceLeDiff, Nat.reduceLT, Int.reduceLT, Int.reduceLE, Int.reduceEq] <;> rfl) | (with_reducible apply call (c2)); (focus simp (disch := omega) only [go_sem, Nat.reduceEqDiff, ↓reduceIte, reduceCtorEq, Nat.reduceAdd, Nat.reduceMul, Int.reduceToNat, List.reduceReplicate, Nat.reduceLeDiff, Nat.reduceLT, Int.reduceLT, Int.reduceLE, Int.reduceEq] <;> rfl) | with_reducible refine giv_intro fun _h => ?_ | with_reducible refine alt_intro ?_ fun _h => ?_ | with_reducible refine pickD_nil ?_ | (with_reducible refine brc (fun _h => ?_) fun _h => ?_) <;> first | (exfalso; omega) | simp only [decide_eq_false _h] | simp only [(_h : (_ : Bool) = _)] | simp only [decide_eq_true _h] | skip)
    · rw [scoreT, if_neg (by omega), if_pos h2]
      (refine fn_look s20_ok (by simp) (by intro k; simp only [go_sem, Nat.reduceEqDiff, ↓reduceIte, reduceCtorEq, Nat.reduceAdd, Nat.reduceMul, Int.reduceToNat, List.reduceReplicate, Nat.reduceLeDiff, Nat.reduceLT, Int.reduceLT, Int.reduceLE, Int.reduceEq]) fun S hS => cwp_sound _ _ _ _ ?_; simp (disch := omega) only [s20, go_sem, Nat.reduceEqDiff, ↓reduceIte, reduceCtorEq, Nat.reduceAdd, Nat.reduceMul, Int.reduceToNat, List.reduceReplicate, Nat.reduceLeDiff, Nat.reduceLT, Int.reduceLT, Int.reduceLE, Int.reduceEq])
      repeat' (first | with_reducible refine inw ?_ | simp (disch := omega) only [go_sem, Nat.reduceEqDiff, ↓reduceIte, reduceCtorEq, Nat.reduceAdd, Nat.reduceMul, Int.reduceToNat, List.reduceReplicate, Nat.reduceLeDiff, Nat.reduceLT, Int.reduceLT, Int.reduceLE, Int.reduceEq] | (with_reducible apply call (c1)); (focus simp (disch := omega) only [go_sem, Nat.reduceEqDiff, ↓reduceIte, reduceCtorEq, Nat.reduceAdd, Nat.reduceMul, Int.reduceToNat, List.reduceReplicate, Nat.reduceLeDiff, Nat.reduceLT, Int.reduceLT, Int.reduceLE, Int.reduceEq] <;> rfl) | (with_reducible apply call (c2)); (focus simp (disch := omega) only [go_sem, Nat.reduceEqDiff, ↓reduceIte, reduceCtorEq, Nat.reduceAdd, Nat.reduceMul, Int.reduceToNat, List.reduceReplicate, Nat.reduceLeDiff, Nat.reduceLT, Int.reduceLT, Int.reduceLE, Int.reduceEq] <;> rfl) | with_reducible refine giv_intro fun _h => ?_ | with_reducible refine alt_intro ?_ fun _h => ?_ | with_reducible refine pickD_nil ?_ | (with_reducible refine brc (fun _h => ?_) fun _h => ?_) <;> first | (exfalso; omega) | simp only [decide_eq_false _h] | simp only [(_h : (_ : Bool) = _)] | simp only [decide_eq_true _h] | skip)
  · rw [scoreT, if_pos h1]
    (refine fn_look s20_ok (by simp) (by intro k; simp only [go_sem, Nat.reduceEqDiff, ↓reduceIte, reduceCtorEq, Nat.reduceAdd, Nat.reduceMul, Int.reduceToNat, List.reduceReplicate, Nat.reduceLeDiff, Nat.reduceLT, Int.reduceLT, Int.reduceLE, Int.reduceEq]) fun S hS => cwp_sound _ _ _ _ ?_; simp (disch := omega) only [s20, go_sem, Nat.reduceEqDiff, ↓reduceIte, reduceCtorEq, Nat.reduceAdd, Nat.reduceMul, Int.reduceToNat, List.reduceReplicate, Nat.reduceLeDiff, Nat.reduceLT, Int.reduceLT, Int.reduceLE, Int.reduceEq])
    repeat' (first | with_reducible refine inw ?_ | simp (disch := omega) only [go_sem, Nat.reduceEqDiff, ↓reduceIte, reduceCtorEq, Nat.reduceAdd, Nat.reduceMul, Int.reduceToNat, List.reduceReplicate, Nat.reduceLeDiff, Nat.reduceLT, Int.reduceLT, Int.reduceLE, Int.reduceEq] | (with_reducible apply call (c1)); (focus simp (disch := omega) only [go_sem, Nat.reduceEqDiff, ↓reduceIte, reduceCtorEq, Nat.reduceAdd, Nat.reduceMul, Int.reduceToNat, List.reduceReplicate, Nat.reduceLeDiff, Nat.reduceLT, Int.reduceLT, Int.reduceLE, Int.reduceEq] <;> rfl) | (with_reducible apply call (c2)); (focus simp (disch := omega) only [go_sem, Nat.reduceEqDiff, ↓reduceIte, reduceCtorEq, Nat.reduceAdd, Nat.reduceMul, Int.reduceToNat, List.reduceReplicate, Nat.reduceLeDiff, Nat.reduceLT, Int.reduceLT, Int.reduceLE, Int.reduceEq] <;> rfl) | with_reducible refine giv_intro fun _h => ?_ | with_reducible refine alt_intro ?_ fun _h => ?_ | with_reducible refine pickD_nil ?_ | (with_reducible refine brc (fun _h => ?_) fun _h => ?_) <;> first | (exfalso; omega) | simp only [decide_eq_false _h] | simp only [(_h : (_ : Bool) = _)] | simp only [decide_eq_true _h] | skip)
/-- ablaut/ablautlaw21.DependScores: 2 parameters, 0 captured -/
def s5 : SC := .seq (.reg [o1 4 (.mv (cB false))])
  (.seq (.seq (.reg [o1 11 (.mv (.t 0)),
     o1 12 (.call (.f 12) [(.t 11)]),
     o1 13 (.mv (.t 12)),
     oF 14 (.mv (.t 1)) 13,
     oF 15 (.call (.f 12) [(.t 14)]) 13,
     o1 16 (.pick (.t 13) (cB true) (.t 15))])
    (.cond (.t 16) (.seq (.reg [o1 17 (.call (.f 14) []),
       o1 4 (.mv (.t 17))])
      (.ret)) (.skip)))
   (.seq (.reg [o1 19 (.mv (.t 0)),
     o1 20 (.mv (.t 1)),
     o1 21 (.call (.f 19) [(.t 19), (.t 20)]),
     o1 18 (.mv (.t 21)),
     o1 22 (.ext (.t 18) 0),
     o1 23 (.ext (.t 18) 1),
     o1 24 (.ext (.t 18) 2),
     o1 5 (.mv (.t 22)),
     o1 6 (.mv (.t 23)),
     o1 7 (.mv (.t 24))])
    (.seq (.reg [o1 26 (.mv (.t 0)),
      o1 27 (.mv (.t 1)),
      o1 28 (.call (.f 20) [(.t 26), (.t 27)]),
      o1 25 (.mv (.t 28)),
      o1 29 (.ext (.t 25) 0),
      o1 30 (.ext (.t 25) 1),
      o1 31 (.ext (.t 25) 2),
      o1 8 (.mv (.t 29)),
      o1 9 (.mv (.t 30)),
      o1 10 (.mv (.t 31))])
     (.seq (.reg [o1 32 (.mv (.t 5)),
       o1 33 (.mv (.t 8)),
       o1 34 (.bin .eql (.t 32) (.t 33)),
       o1 35 (.mv (.t 34)),
       oT 36 (.mv (.t 6)) 35,
       oT 37 (.mv (.t 9)) 35,
       oT 38 (.bin .eql (.t 36) (.t 37)) 35,
       o1 39 (.pick (.t 35) (.t 38) (cB false)),
       o1 40 (.mv (.t 39)),
       oT 41 (.mv (.t 7)) 40,
       oT 42 (.mv (.t 10)) 40,
       oT 43 (.bin .eql (.t 41) (.t 42)) 40,
       o1 44 (.pick (.t 40) (.t 43) (cB false)),
       o1 45 (.mv (.t 44)),
       oT 46 (.call (.f 14) []) 45,
       o1 47 (.pick (.t 45) (.t 46) (cB false)),
       o1 4 (.mv (.t 47))])
      (.ret)))))
theorem s5_ok : lookF Try.prog 5 = some (s5, 48, [.tmp 4]) := by kernel_rfl
theorem DependScores_ok (a b : List Hung) (ha : TH a) (hb : TH b) : Fn P 5 [sl a, sl b] (boolA true) := by
  by_cases h1 : overB a = false
  · by_cases h2 : overB b = false
    · have c1 := score_ok a b (over_sm ha h1) (over_sm hb h2)
      have c2 := rScore_ok a b (over_sm ha h1) (over_sm hb h2)
      generalize scoreT a b = t at *
      (refine fn_look s5_ok (by simp) (by intro k; simp only [go_sem, Nat.reduceEqDiff, ↓reduceIte, reduceCtorEq, Nat.reduceAdd, Nat.reduceMul, Int.reduceToNat, List.reduceReplicate, Nat.reduceLeDiff, Nat.reduceLT, Int.reduceLT, Int.reduceLE, Int.reduceEq]) fun S hS => cwp_sound _ _ _ _ ?_; simp (disch := omega) only [s5, go_sem, Nat.reduceEqDiff, ↓reduceIte, reduceCtorEq, Nat.reduceAdd, Nat.reduceMul, Int.reduceToNat, List.reduceReplicate, Nat.reduceLeDiff, Nat.reduceLT, Int.reduceLT, Int.reduceLE, Int.reduceEq])
      repeat' (first | with_reducible refine inw ?_ | simp (disch := omega) only [go_sem, Nat.reduceEqDiff, ↓reduceIte, reduceCtorEq, Nat.reduceAdd, Nat.reduceMul, Int.reduceToNat, List.reduceReplicate, Nat.reduceLeDiff, Nat.reduceLT, Int.reduceLT, Int.reduceLE, Int.reduceEq] | (with_reducible apply call (over_ok a)); (focus simp (disch := omega) only [go_sem, Nat.reduceEqDiff, ↓reduceIte, reduceCtorEq, Nat.reduceAdd, Nat.reduceMul, Int.reduceToNat, List.reduceReplicate, Nat.reduceLeDiff, Nat.reduceLT, Int.reduceLT, Int.reduceLE, Int.reduceEq] <;> rfl) | (with_reducible apply call (over_ok b)); (focus simp (disch := omega) only [go_sem, Nat.reduceEqDiff, ↓reduceIte, reduceCtorEq, Nat.reduceAdd, Nat.reduceMul, Int.reduceToNat, List.reduceReplicate, Nat.reduceLeDiff, Nat.reduceLT, Int.reduceLT, Int.reduceLE, Int.reduceEq] <;> rfl) | (with_reducible apply call (c1)); (focus simp (disch := omega) only [go_sem, Nat.reduceEqDiff, ↓reduceIte, reduceCtorEq, Nat.reduceAdd, Nat.reduceMul, Int.reduceToNat, List.reduceReplicate, Nat.reduceLeDiff, Nat.reduceLT, Int.reduceLT, Int.reduceLE, Int.reduceEq] <;> rfl) | (with_reducible apply call (c2)); (focus simp (disch := omega) only [go_sem, Nat.reduceEqDiff, ↓reduceIte, reduceCtorEq, Nat.reduceAdd, Nat.reduceMul, Int.reduceToNat, List.reduceReplicate, Nat.reduceLeDiff, Nat.reduceLT, Int.reduceLT, Int.reduceLE, Int.reduceEq] <;> rfl) | (with_reducible apply call (known_ok)); (focus simp (disch := omega) only [go_sem, Nat.reduceEqDiff, ↓reduceIte, reduceCtorEq, Nat.reduceAdd, Nat.reduceMul, Int.reduceToNat, List.reduceReplicate, Nat.reduceLeDiff, Nat.reduceLT, Int.reduceLT, Int.reduceLE, Int.reduceEq] <;> rfl) | with_reducible refine giv_intro fun _h => ?_ | with_reducible refine alt_intro ?_ fun _h => ?_ | with_reducible refine pickD_nil ?_ | (with_reducible refine brc (fun _h => ?_) fun _h => ?_) <;> first | (exfalso; omega) | simp only [decide_eq_false _h] | simp only [(_h : (_ : Bool) = _)] | simp only [decide_eq_true _h] | skip)
    · have c3 := over_ok b
      rw [show overB b = true by simpa using h2] at c3
      (refine fn_look s5_ok (by simp) (by intro k; simp only [go_sem, Nat.reduceEqDiff, ↓reduceIte, reduceCtorEq, Nat.reduceAdd, Nat.reduceMul, Int.reduceToNat, List.reduceReplicate, Nat.reduceLeDiff, Nat.reduceLT, Int.reduceLT, Int.reduceLE, Int.reduceEq]) fun S hS => cwp_sound _ _ _ _ ?_; simp (disch := omega) only [s5, go_sem, Nat.reduceEqDiff, ↓reduceIte, reduceCtorEq, Nat.reduceAdd, Nat.reduceMul, Int.reduceToNat, List.reduceReplicate, Nat.reduceLeDiff, Nat.reduceLT, Int.reduceLT, Int.reduceLE, Int.reduceEq])
      repeat' (first | with_reducible refine inw ?_ | simp (disch := omega) only [go_sem, Nat.reduceEqDiff, ↓reduceIte, reduceCtorEq, Nat.reduceAdd, Nat.reduceMul, Int.reduceToNat, List.reduceReplicate, Nat.reduceLeDiff, Nat.reduceLT, Int.reduceLT, Int.reduceLE, Int.reduceEq] | (with_reducible apply call (over_ok a)); (focus simp (disch := omega) only [go_sem, Nat.reduceEqDiff, ↓reduceIte, reduceCtorEq, Nat.reduceAdd, Nat.reduceMul, Int.reduceToNat, List.reduceReplicate, Nat.reduceLeDiff, Nat.reduceLT, Int.reduceLT, Int.reduceLE, Int.reduceEq] <;> rfl) | (with_reducible apply call (c3)); (focus simp (disch := omega) only [go_sem, Nat.reduceEqDiff, ↓reduceIte, reduceCtorEq, Nat.reduceAdd, Nat.reduceMul, Int.reduceToNat, List.reduceReplicate, Nat.reduceLeDiff, Nat.reduceLT, Int.reduceLT, Int.reduceLE, Int.reduceEq] <;> rfl) | (with_reducible apply call (known_ok)); (focus simp (disch := omega) only [go_sem, Nat.reduceEqDiff, ↓reduceIte, reduceCtorEq, Nat.reduceAdd, Nat.reduceMul, Int.reduceToNat, List.reduceReplicate, Nat.reduceLeDiff, Nat.reduceLT, Int.reduceLT, Int.reduceLE, Int.reduceEq] <;> rfl) | with_reducible refine giv_intro fun _h => ?_ | with_reducible refine alt_intro ?_ fun _h => ?_ | with_reducible refine pickD_nil ?_ | (with_reducible refine brc (fun _h => ?_) fun _h => ?_) <;> first | (exfalso; omega) | simp only [decide_eq_false _h] | simp only [(_h : (_ : Bool) = _)] | simp only [decide_eq_true _h] | skip)
  · have c3 := over_ok a
    rw [show overB a = true by simpa using h1] at c3
    (refine fn_look s5_ok (by simp) (by intro k; simp only [go_sem, Nat.reduceEqDiff, ↓reduceIte, reduceCtorEq, Nat.reduceAdd, Nat.reduceMul, Int.reduceToNat, List.reduceReplicate, Nat.reduceLeDiff, Nat.reduceLT, Int.reduceLT, Int.reduceLE, Int.reduceEq]) fun S hS => cwp_sound _ _ _ _ ?_; simp (disch := omega) only [s5, go_sem, Nat.reduceEqDiff, ↓reduceIte, reduceCtorEq, Nat.reduceAdd, Nat.reduceMul, Int.reduceToNat, List.reduceReplicate, Nat.reduceLeDiff, Nat.reduceLT, Int.reduceLT, Int.reduceLE, Int.reduceEq])
    repeat' (first | with_reducible refine inw ?_ | simp (disch := omega) only [go_sem, Nat.reduceEqDiff, ↓reduceIte, reduceCtorEq, Nat.reduceAdd, Nat.reduceMul, Int.reduceToNat, List.reduceReplicate, Nat.reduceLeDiff, Nat.reduceLT, Int.reduceLT, Int.reduceLE, Int.reduceEq] | (with_reducible apply call (c3)); (focus simp (disch := omega) only [go_sem, Nat.reduceEqDiff, ↓reduceIte, reduceCtorEq, Nat.reduceAdd, Nat.reduceMul, Int.reduceToNat, List.reduceReplicate, Nat.reduceLeDiff, Nat.reduceLT, Int.reduceLT, Int.reduceLE, Int.reduceEq] <;> rfl) | (with_reducible apply call (known_ok)); (focus simp (disch := omega) only [go_sem, Nat.reduceEqDiff, ↓reduceIte, reduceCtorEq, Nat.reduceAdd, Nat.reduceMul, Int.reduceToNat, List.reduceReplicate, Nat.reduceLeDiff, Nat.reduceLT, Int.reduceLT, Int.reduceLE, Int.reduceEq] <;> rfl) | with_reducible refine giv_intro fun _h => ?_ | with_reducible refine alt_intro ?_ fun _h => ?_ | with_reducible refine pickD_nil ?_ | (with_reducible refine brc (fun _h => ?_) fun _h => ?_) <;> first | (exfalso; omega) | simp only [decide_eq_false _h] | simp only [(_h : (_ : Bool) = _)] | simp only [decide_eq_true _h] | skip)
theorem ts_of {l : List Str} (h : l.length * Try.prog.bytesOf 9 ≤ 140737488351232 ∧ ∀ s ∈ l, s.size ≤ 140737488351232) : TS l := by
  have e : Try.prog.bytesOf 9 = 16 := by kernel_rfl
  rw [e] at h
  exact ⟨by omega, h.2⟩
theorem th_of {l : List Hung} (h : l.length * Try.prog.bytesOf 34 ≤ 140737488351232 ∧ ∀ a ∈ l, (a.1.length * Try.prog.bytesOf 9 ≤ 140737488351232 ∧ ∀ s ∈ a.1, s.size ≤ 140737488351232) ∧ (-9223372036854775808 ≤ a.2.1 ∧ a.2.1 ≤ 9223372036854775807) ∧ a.2.2.size ≤ 140737488351232) : TH l := by
  have e : Try.prog.bytesOf 34 = 48 := by kernel_rfl
  rw [e] at h
  exact ⟨by omega, fun a ha => ⟨ts_of (h.2 a ha).1, (h.2 a ha).2.2⟩⟩
end Go.Proofs.Ytkedbkdbnmmkhaa.Ev

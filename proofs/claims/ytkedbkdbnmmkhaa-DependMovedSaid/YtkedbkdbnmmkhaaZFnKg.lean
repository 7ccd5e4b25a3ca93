/- Far too much; how many heads and labels are alike; the law DependScores. -/
import Derived.Test.YtkedbkdbnmmkhaaZFnKf
set_option linter.unusedVariables false
set_option linter.unusedSimpArgs false
namespace Go.Proofs.Ytkedbkdbnmmkhaa.Ev
open Go Go.Proofs

def TS (l : List Str) : Prop := l.length ≤ 140737488351232 ∧ ∀ s ∈ l, s.size ≤ 140737488351232
def TH (l : List Hung) : Prop := l.length ≤ 140737488351232 ∧ ∀ h ∈ l, TS h.1 ∧ h.2.2.size ≤ 140737488351232
def textI : List Str → Int → Int
  | [], n => n
  | s :: ss, n => if n ≤ 100000 then textI ss (IntKind.i64.wrap (n + s.size)) else n
theorem textI_stop (l : List Str) {n : Int} (h : ¬n ≤ 100000) : textI l n = n := by cases l <;> simp [textI, h]
def textN (l : List Str) : Int := textI l l.length
/-- ablaut/ablautlaw21.texts: 1 parameters, 0 captured -/
def s24 : SC := .seq (.reg [o1 2 (.mv (cI 0))])
  (.seq (.reg [o1 5 (.mv (.t 0)),
    o1 6 (.lenL (.t 5)),
    o1 3 (.mv (.t 6))])
   (.seq (.seq (.reg [o1 4 (.mv (cI 0))])
     (.block 0 (.loop (.seq (.seq (.reg [o1 7 (.mv (.t 4)),
          o1 8 (.mv (.t 0)),
          o1 9 (.lenL (.t 8)),
          o1 10 (.bin .lss (.t 7) (.t 9)),
          o1 11 (.mv (.t 10)),
          oT 12 (.mv (.t 3)) 11,
          oT 13 (.bin .leq (.t 12) (cI 100000)) 11,
          o1 14 (.pick (.t 11) (.t 13) (cB false))])
         (.cond (.t 14) (.skip) (.exit 0)))
        (.seq (.block 1 (.reg [o1 17 (.mv (.t 3)),
           o1 18 (.mv (.t 0)),
           o1 19 (.mv (.t 4)),
           o1 20 (.iaddr 1 (.t 18) (.t 19)),
           o1 21 (.load none (.t 20)),
           o1 22 (.lenS (.t 21)),
           o1 23 (.bin .add (.t 17) (.t 22)),
           o1 3 (.mv (.t 23))]))
         (.reg [o1 15 (.mv (.t 4)),
          o1 16 (.bin .add (.t 15) (cI 1)),
          o1 4 (.mv (.t 16))]))))))
    (.seq (.reg [o1 24 (.mv (.t 3)),
      o1 2 (.mv (.t 24))])
     (.ret))))
theorem s24_ok : lookF Try.prog 24 = some (s24, 25, [.tmp 2]) := by kernel_rfl
theorem texts_ok (l : List Str) : Fn P 24 [sl l] (intA (textN l)) := by
  unfold textN
  (refine fn_look s24_ok (by simp) (by intro k; simp only [go_sem, Nat.reduceEqDiff, ↓reduceIte, reduceCtorEq, Nat.reduceAdd, Nat.reduceMul, Int.reduceToNat, List.reduceReplicate, Nat.reduceLeDiff, Nat.reduceLT, Int.reduceLT, Int.reduceLE, Int.reduceEq]) fun S hS => cwp_sound _ _ _ _ ?_; simp (disch := omega) only [s24, go_sem, Nat.reduceEqDiff, ↓reduceIte, reduceCtorEq, Nat.reduceAdd, Nat.reduceMul, Int.reduceToNat, List.reduceReplicate, Nat.reduceLeDiff, Nat.reduceLT, Int.reduceLT, Int.reduceLE, Int.reduceEq])
  repeat' (first | with_reducible refine inw ?_ | simp (disch := omega) only [go_sem, Nat.reduceEqDiff, ↓reduceIte, reduceCtorEq, Nat.reduceAdd, Nat.reduceMul, Int.reduceToNat, List.reduceReplicate, Nat.reduceLeDiff, Nat.reduceLT, Int.reduceLT, Int.reduceLE, Int.reduceEq] | with_reducible refine giv_intro fun _h => ?_ | with_reducible refine alt_intro ?_ fun _h => ?_ | with_reducible refine pickD_nil ?_ | (with_reducible refine brc (fun _h => ?_) fun _h => ?_) <;> first | (exfalso; omega) | simp only [decide_eq_false _h] | simp only [(_h : (_ : Bool) = _)] | simp only [decide_eq_true _h] | skip)
  (refine loopC hS [0] (by simp only [go_sem, Nat.reduceEqDiff, ↓reduceIte, reduceCtorEq, Nat.reduceAdd, Nat.reduceMul, Int.reduceToNat, List.reduceReplicate, Nat.reduceLeDiff, Nat.reduceLT, Int.reduceLT, Int.reduceLE, Int.reduceEq]; try rfl) (fun (⟨i, n⟩ : Nat × Int) => [(3, intA n), (4, intA i)]) (fun (⟨i, n⟩ : Nat × Int) => []) (fun (⟨i, n⟩ : Nat × Int) => i ≤ l.length ∧ textI l l.length = textI (l.drop i) n) (fun (⟨i, n⟩ : Nat × Int) => l.length - i) ((0, (l.length : Int))) ?h01 ?hn1 ?rd1; case hn1 => (intro s; first | rfl | (rcases s with ⟨_, _⟩; rfl) | (rcases s with ⟨_, _, _⟩; rfl) | (rcases s with ⟨_, _, _, _⟩; rfl) | (rcases s with ⟨_, _, _, _, _⟩; rfl)))
  · simp (disch := omega) only [go_sem, Nat.reduceEqDiff, ↓reduceIte, reduceCtorEq, Nat.reduceAdd, Nat.reduceMul, Int.reduceToNat, List.reduceReplicate, Nat.reduceLeDiff, Nat.reduceLT, Int.reduceLT, Int.reduceLE, Int.reduceEq]; simp
  rintro ⟨i, n⟩ ⟨hi, hI⟩
  replace hi : i ≤ l.length := hi
  replace hI : textI l l.length = textI (l.drop i) n := hI
  by_cases hil : i < l.length
  · by_cases hn : n ≤ 100000
    · rw [nth_drop hil, textI, if_pos hn] at hI
      repeat' (first | with_reducible refine inw ?_ | simp (disch := omega) only [go_sem, Nat.reduceEqDiff, ↓reduceIte, reduceCtorEq, Nat.reduceAdd, Nat.reduceMul, Int.reduceToNat, List.reduceReplicate, Nat.reduceLeDiff, Nat.reduceLT, Int.reduceLT, Int.reduceLE, Int.reduceEq] | with_reducible refine giv_intro fun _h => ?_ | with_reducible refine alt_intro ?_ fun _h => ?_ | with_reducible refine pickD_nil ?_ | (with_reducible refine brc (fun _h => ?_) fun _h => ?_) <;> first | (exfalso; omega) | simp only [decide_eq_false _h] | simp only [(_h : (_ : Bool) = _)] | simp only [decide_eq_true _h] | skip)
      exact ⟨(i + 1, _), ⟨by omega, by omega, hI⟩, rfl, by omega⟩
    · rw [textI_stop _ hn] at hI
      rw [hI]
      repeat' (first | with_reducible refine inw ?_ | simp (disch := omega) only [go_sem, Nat.reduceEqDiff, ↓reduceIte, reduceCtorEq, Nat.reduceAdd, Nat.reduceMul, Int.reduceToNat, List.reduceReplicate, Nat.reduceLeDiff, Nat.reduceLT, Int.reduceLT, Int.reduceLE, Int.reduceEq] | with_reducible refine giv_intro fun _h => ?_ | with_reducible refine alt_intro ?_ fun _h => ?_ | with_reducible refine pickD_nil ?_ | (with_reducible refine brc (fun _h => ?_) fun _h => ?_) <;> first | (exfalso; omega) | simp only [decide_eq_false _h] | simp only [(_h : (_ : Bool) = _)] | simp only [decide_eq_true _h] | skip)
  · rw [List.drop_eq_nil_of_le (by omega), textI] at hI
    rw [hI]
    repeat' (first | with_reducible refine inw ?_ | simp (disch := omega) only [go_sem, Nat.reduceEqDiff, ↓reduceIte, reduceCtorEq, Nat.reduceAdd, Nat.reduceMul, Int.reduceToNat, List.reduceReplicate, Nat.reduceLeDiff, Nat.reduceLT, Int.reduceLT, Int.reduceLE, Int.reduceEq] | with_reducible refine giv_intro fun _h => ?_ | with_reducible refine alt_intro ?_ fun _h => ?_ | with_reducible refine pickD_nil ?_ | (with_reducible refine brc (fun _h => ?_) fun _h => ?_) <;> first | (exfalso; omega) | simp only [decide_eq_false _h] | simp only [(_h : (_ : Bool) = _)] | simp only [decide_eq_true _h] | skip)
def overI : List Hung → Int → Int
  | [], n => n
  | h :: hs, n => if n ≤ 100000 then overI hs (IntKind.i64.wrap (n + IntKind.i64.wrap (h.2.2.size + textN h.1))) else n
theorem overI_stop (l : List Hung) {n : Int} (h : ¬n ≤ 100000) : overI l n = n := by cases l <;> simp [overI, h]
def overB (l : List Hung) : Bool := decide (100000 < overI l l.length)
/-- ablaut/ablautlaw21.over: 1 parameters, 0 captured -/
def s12 : SC := .seq (.reg [o1 2 (.mv (cB false))])
  (.seq (.reg [o1 5 (.mv (.t 0)),
    o1 6 (.lenL (.t 5)),
    o1 3 (.mv (.t 6))])
   (.seq (.seq (.reg [o1 4 (.mv (cI 0))])
     (.block 0 (.loop (.seq (.seq (.reg [o1 7 (.mv (.t 4)),
          o1 8 (.mv (.t 0)),
          o1 9 (.lenL (.t 8)),
          o1 10 (.bin .lss (.t 7) (.t 9)),
          o1 11 (.mv (.t 10)),
          oT 12 (.mv (.t 3)) 11,
          oT 13 (.bin .leq (.t 12) (cI 100000)) 11,
          o1 14 (.pick (.t 11) (.t 13) (cB false))])
         (.cond (.t 14) (.skip) (.exit 0)))
        (.seq (.block 1 (.regD [o1 17 (.mv (.t 3)),
           o1 18 (.mv (.t 0)),
           o1 19 (.mv (.t 4)),
           o1 20 (.iaddr 3 (.t 18) (.t 19)),
           o1 21 (.faddr 2 (.t 20)),
           o1 22 (.load none (.t 21)),
           o1 23 (.lenS (.t 22)),
           o1 24 (.mv (.t 0)),
           o1 25 (.mv (.t 4)),
           o1 26 (.iaddr 3 (.t 24) (.t 25)),
           o1 27 (.faddr 0 (.t 26)),
           o1 28 (.load none (.t 27)),
           o1 29 (.call (.f 24) [(.t 28)]),
           o1 30 (.bin .add (.t 23) (.t 29)),
           o1 31 (.bin .add (.t 17) (.t 30)),
           o1 3 (.mv (.t 31))]))
         (.reg [o1 15 (.mv (.t 4)),
          o1 16 (.bin .add (.t 15) (cI 1)),
          o1 4 (.mv (.t 16))]))))))
    (.seq (.reg [o1 32 (.mv (.t 3)),
      o1 33 (.bin .gtr (.t 32) (cI 100000)),
      o1 2 (.mv (.t 33))])
     (.ret))))
theorem s12_ok : lookF Try.prog 12 = some (s12, 34, [.tmp 2]) := by kernel_rfl
theorem over_ok (l : List Hung) : Fn P 12 [sl l] (boolA (overB l)) := by
  unfold overB
  (refine fn_look s12_ok (by simp) (by intro k; simp only [go_sem, Nat.reduceEqDiff, ↓reduceIte, reduceCtorEq, Nat.reduceAdd, Nat.reduceMul, Int.reduceToNat, List.reduceReplicate, Nat.reduceLeDiff, Nat.reduceLT, Int.reduceLT, Int.reduceLE, Int.reduceEq]) fun S hS => cwp_sound _ _ _ _ ?_; simp (disch := omega) only [s12, go_sem, Nat.reduceEqDiff, ↓reduceIte, reduceCtorEq, Nat.reduceAdd, Nat.reduceMul, Int.reduceToNat, List.reduceReplicate, Nat.reduceLeDiff, Nat.reduceLT, Int.reduceLT, Int.reduceLE, Int.reduceEq])
  repeat' (first | with_reducible refine inw ?_ | simp (disch := omega) only [go_sem, Nat.reduceEqDiff, ↓reduceIte, reduceCtorEq, Nat.reduceAdd, Nat.reduceMul, Int.reduceToNat, List.reduceReplicate, Nat.reduceLeDiff, Nat.reduceLT, Int.reduceLT, Int.reduceLE, Int.reduceEq] | with_reducible refine giv_intro fun _h => ?_ | with_reducible refine alt_intro ?_ fun _h => ?_ | with_reducible refine pickD_nil ?_ | (with_reducible refine brc (fun _h => ?_) fun _h => ?_) <;> first | (exfalso; omega) | simp only [decide_eq_false _h] | simp only [(_h : (_ : Bool) = _)] | simp only [decide_eq_true _h] | skip)
  (refine loopC hS [0] (by simp only [go_sem, Nat.reduceEqDiff, ↓reduceIte, reduceCtorEq, Nat.reduceAdd, Nat.reduceMul, Int.reduceToNat, List.reduceReplicate, Nat.reduceLeDiff, Nat.reduceLT, Int.reduceLT, Int.reduceLE, Int.reduceEq]; try rfl) (fun (⟨i, n⟩ : Nat × Int) => [(3, intA n), (4, intA i)]) (fun (⟨i, n⟩ : Nat × Int) => []) (fun (⟨i, n⟩ : Nat × Int) => i ≤ l.length ∧ overI l l.length = overI (l.drop i) n) (fun (⟨i, n⟩ : Nat × Int) => l.length - i) ((0, (l.length : Int))) ?h02 ?hn2 ?rd2; case hn2 => (intro s; first | rfl | (rcases s with ⟨_, _⟩; rfl) | (rcases s with ⟨_, _, _⟩; rfl) | (rcases s with ⟨_, _, _, _⟩; rfl) | (rcases s with ⟨_, _, _, _, _⟩; rfl)))
  · simp (disch := omega) only [go_sem, Nat.reduceEqDiff, ↓reduceIte, reduceCtorEq, Nat.reduceAdd, Nat.reduceMul, Int.reduceToNat, List.reduceReplicate, Nat.reduceLeDiff, Nat.reduceLT, Int.reduceLT, Int.reduceLE, Int.reduceEq]; simp
  rintro ⟨i, n⟩ ⟨hi, hI⟩
  replace hi : i ≤ l.length := hi
  replace hI : overI l l.length = overI (l.drop i) n := hI
  by_cases hil : i < l.length
  · by_cases hn : n ≤ 100000
    · rw [nth_drop hil, overI, if_pos hn] at hI
      have c1 := texts_ok (nth l i).1
      repeat' (first | with_reducible refine inw ?_ | simp (disch := omega) only [go_sem, Nat.reduceEqDiff, ↓reduceIte, reduceCtorEq, Nat.reduceAdd, Nat.reduceMul, Int.reduceToNat, List.reduceReplicate, Nat.reduceLeDiff, Nat.reduceLT, Int.reduceLT, Int.reduceLE, Int.reduceEq] | (with_reducible apply call_D (c1)); (focus simp (disch := omega) only [go_sem, Nat.reduceEqDiff, ↓reduceIte, reduceCtorEq, Nat.reduceAdd, Nat.reduceMul, Int.reduceToNat, List.reduceReplicate, Nat.reduceLeDiff, Nat.reduceLT, Int.reduceLT, Int.reduceLE, Int.reduceEq] <;> rfl) | with_reducible refine giv_intro fun _h => ?_ | with_reducible refine alt_intro ?_ fun _h => ?_ | with_reducible refine pickD_nil ?_ | (with_reducible refine brc (fun _h => ?_) fun _h => ?_) <;> first | (exfalso; omega) | simp only [decide_eq_false _h] | simp only [(_h : (_ : Bool) = _)] | simp only [decide_eq_true _h] | skip)
      exact ⟨(i + 1, _), ⟨by omega, by omega, hI⟩, rfl, by omega⟩
    · rw [overI_stop _ hn] at hI
      rw [hI]
      repeat' (first | with_reducible refine inw ?_ | simp (disch := omega) only [go_sem, Nat.reduceEqDiff, ↓reduceIte, reduceCtorEq, Nat.reduceAdd, Nat.reduceMul, Int.reduceToNat, List.reduceReplicate, Nat.reduceLeDiff, Nat.reduceLT, Int.reduceLT, Int.reduceLE, Int.reduceEq] | with_reducible refine giv_intro fun _h => ?_ | with_reducible refine alt_intro ?_ fun _h => ?_ | with_reducible refine pickD_nil ?_ | (with_reducible refine brc (fun _h => ?_) fun _h => ?_) <;> first | (exfalso; omega) | simp only [decide_eq_false _h] | simp only [(_h : (_ : Bool) = _)] | simp only [decide_eq_true _h] | skip)
  · rw [List.drop_eq_nil_of_le (by omega), overI] at hI
    rw [hI]
    repeat' (first | with_reducible refine inw ?_ | simp (disch := omega) only [go_sem, Nat.reduceEqDiff, ↓reduceIte, reduceCtorEq, Nat.reduceAdd, Nat.reduceMul, Int.reduceToNat, List.reduceReplicate, Nat.reduceLeDiff, Nat.reduceLT, Int.reduceLT, Int.reduceLE, Int.reduceEq] | with_reducible refine giv_intro fun _h => ?_ | with_reducible refine alt_intro ?_ fun _h => ?_ | with_reducible refine pickD_nil ?_ | (with_reducible refine brc (fun _h => ?_) fun _h => ?_) <;> first | (exfalso; omega) | simp only [decide_eq_false _h] | simp only [(_h : (_ : Bool) = _)] | simp only [decide_eq_true _h] | skip)
theorem wrap_in {x : Int} (h0 : -9223372036854775808 ≤ x) (h1 : x ≤ 9223372036854775807) : IntKind.i64.wrap x = x := wrap_nat ⟨h0, h1⟩
theorem textI_le : ∀ (l : List Str) (n : Int), (∀ s ∈ l, s.size ≤ 140737488351232) → 0 ≤ n → n ≤ 140737488351232 → n ≤ textI l n ∧ textI l n ≤ 281474976802464 ∧ (textI l n ≤ 100000 → ∀ s ∈ l, s.size ≤ 100000)
  | [], n, hs, h0, h1 => by simp [textI]; omega
  | s :: ss, n, hs, h0, h1 => by
    have hz := hs s (by simp)
    rw [textI]
    split
    · rename_i hn
      rw [wrap_in (by omega) (by omega)]
      by_cases hb : n + s.size ≤ 140737488351232
      · obtain ⟨q1, q2, q3⟩ := textI_le ss (n + s.size) (fun x hx => hs x (by simp [hx])) (by omega) hb
        refine ⟨by omega, q2, fun h x hx => ?_⟩
        rcases List.mem_cons.1 hx with rfl | hx
        · omega
        · exact q3 h x hx
      · rw [textI_stop _ (by omega)]
        exact ⟨by omega, by omega, fun h => by omega⟩
    · rename_i hn
      exact ⟨by omega, by omega, fun h => absurd h hn⟩
theorem textN_le {l : List Str} (h : TS l) : 0 ≤ textN l ∧ textN l ≤ 281474976802464 ∧ (textN l ≤ 100000 → SmS l) := by
  obtain ⟨q1, q2, q3⟩ := textI_le l l.length h.2 (by omega) (by have := h.1; omega)
  exact ⟨by unfold textN; omega, q2, fun h => ⟨by unfold textN at h; omega, q3 h⟩⟩
theorem overI_le : ∀ (l : List Hung) (n : Int), (∀ h ∈ l, TS h.1 ∧ h.2.2.size ≤ 140737488351232) → 0 ≤ n → n ≤ 1000000000000000000 → n ≤ overI l n ∧ (overI l n ≤ 100000 → ∀ h ∈ l, h.2.2.size ≤ 100000 ∧ SmS h.1)
  | [], n, hs, h0, h1 => by simp [overI]
  | h :: hh, n, hs, h0, h1 => by
    obtain ⟨hz1, hz2⟩ := hs h (by simp)
    obtain ⟨t1, t2, t3⟩ := textN_le hz1
    rw [overI]
    split
    · rename_i hn
      rw [wrap_in (x := h.2.2.size + textN h.1) (by omega) (by omega), wrap_in (by omega) (by omega)]
      obtain ⟨q1, q3⟩ := overI_le hh (n + (h.2.2.size + textN h.1)) (fun x hx => hs x (by simp [hx])) (by omega) (by omega)
      refine ⟨by omega, fun hle x hx => ?_⟩
      rcases List.mem_cons.1 hx with rfl | hx
      · exact ⟨by omega, t3 (by omega)⟩
      · exact q3 hle x hx
    · rename_i hn
      exact ⟨by omega, fun h => absurd h hn⟩
theorem over_sm {l : List Hung} (h : TH l) (ho : overB l = false) : SmH l := by
  have ho := of_decide_eq_false ho
  obtain ⟨q1, q3⟩ := overI_le l l.length h.2 (by omega) (by have := h.1; omega)
  exact ⟨by omega, q3 (by omega)⟩

/-! ### Score -/
theorem ts_of {l : List Str} (h : l.length * Try.prog.bytesOf 9 ≤ 140737488351232 ∧ ∀ s ∈ l, s.size ≤ 140737488351232) : TS l := by
  have e : Try.prog.bytesOf 9 = 16 := by kernel_rfl
  rw [e] at h
  exact ⟨by omega, h.2⟩
theorem th_of {l : List Hung} (h : l.length * Try.prog.bytesOf 34 ≤ 140737488351232 ∧ ∀ a ∈ l, (a.1.length * Try.prog.bytesOf 9 ≤ 140737488351232 ∧ ∀ s ∈ a.1, s.size ≤ 140737488351232) ∧ (-9223372036854775808 ≤ a.2.1 ∧ a.2.1 ≤ 9223372036854775807) ∧ a.2.2.size ≤ 140737488351232) : TH l := by
  have e : Try.prog.bytesOf 34 = 48 := by kernel_rfl
  rw [e] at h
  exact ⟨by omega, fun a ha => ⟨ts_of (h.2 a ha).1, (h.2 a ha).2.2⟩⟩
end Go.Proofs.Ytkedbkdbnmmkhaa.Ev

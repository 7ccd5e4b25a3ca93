/- Frames and hooks: which there are. -/
import Derived.Test.YtkedbkdbnmmkhaaZFnKb
set_option linter.unusedVariables false
set_option linter.unusedSimpArgs false
namespace Go.Proofs.Ytkedbkdbnmmkhaa.Ev
open Go Go.Proofs

def SmS (l : List Str) : Prop := l.length ≤ 100000 ∧ ∀ s ∈ l, s.size ≤ 100000
def SmH (l : List Hung) : Prop := l.length ≤ 100000 ∧ ∀ h ∈ l, h.2.2.size ≤ 100000 ∧ SmS h.1
def SmK (l : List Hook) : Prop := l.length ≤ 100000 ∧ ∀ h ∈ l, SmS h.1 ∧ SmS h.2.1 ∧ SmS h.2.2.1 ∧ h.2.2.2.2.2.size ≤ 100000
theorem SmS.sizes {l : List Str} (h : SmS l) : ∀ s ∈ l, s.size ≤ 4611686018427387904 := fun s hs => by have := h.2 s hs; omega
theorem SmS.len {l : List Str} (h : SmS l) : l.length ≤ 4611686018427387904 := by have := h.1; omega
def labB (h : Hung) : Bool := if h.2.1 = -2 then decide (h.2.2 = ⟨#[]⟩) else nameB h.2.2
def goodH (n : Nat) (h : Hung) : Bool := setB h.1 && (decide (-2 ≤ h.2.1) && (decide (h.2.1 < n) && labB h))
def formE (l : List Hung) : Int := if 200 < l.length ∨ (l.any fun h => decide (16 < h.1.length)) = true then 3 else if l.all (goodH l.length) = true then 0 else 1
theorem formE_hds {l : List Hung} (h : formE l = 0) : Hds l := by
  unfold formE at h
  split at h
  · cases h
  · split at h
    · rename_i h2
      intro i hi
      have := List.all_eq_true.1 h2 _ (nth_mem hi)
      simp only [goodH, Bool.and_eq_true, decide_eq_true_eq] at this
      exact ⟨this.2.1, this.2.2.1⟩
    · cases h
theorem formE_len {l : List Hung} (h : formE l = 0) : l.length ≤ 200 := by
  unfold formE at h
  split at h
  · cases h
  · rename_i h1; omega
/-- ablaut/depend.formed$1: 1 parameters, 0 captured -/
def s80 : SC := .seq (.reg [o1 1 (.box 34 3 (.t 0)),
   o1 2 (.mv (cB false))])
  (.seq (.reg [o1 3 (.faddr 0 (.t 1)),
    o1 4 (.load none (.t 3)),
    o1 5 (.lenL (.t 4)),
    o1 6 (.bin .gtr (.t 5) (cI 16)),
    o1 2 (.mv (.t 6))])
   (.ret))
theorem s80_ok : lookF Try.prog 80 = some (s80, 7, [.tmp 2]) := by kernel_rfl
theorem long1_ok (h : Hung) : Fn P 80 [valA h] (boolA (decide (16 < h.1.length))) := by
  rw [valA_hung]
  (refine fn_look s80_ok (by simp) (by intro k; simp only [go_sem, Nat.reduceEqDiff, ↓reduceIte, reduceCtorEq, Nat.reduceAdd, Nat.reduceMul, Int.reduceToNat, List.reduceReplicate, Nat.reduceLeDiff, Nat.reduceLT, Int.reduceLT, Int.reduceLE, Int.reduceEq]) fun S hS => cwp_sound _ _ _ _ ?_; simp (disch := omega) only [s80, go_sem, Nat.reduceEqDiff, ↓reduceIte, reduceCtorEq, Nat.reduceAdd, Nat.reduceMul, Int.reduceToNat, List.reduceReplicate, Nat.reduceLeDiff, Nat.reduceLT, Int.reduceLT, Int.reduceLE, Int.reduceEq])
  repeat' (first | with_reducible refine inw ?_ | simp (disch := omega) only [go_sem, Nat.reduceEqDiff, ↓reduceIte, reduceCtorEq, Nat.reduceAdd, Nat.reduceMul, Int.reduceToNat, List.reduceReplicate, Nat.reduceLeDiff, Nat.reduceLT, Int.reduceLT, Int.reduceLE, Int.reduceEq] | with_reducible refine giv_intro fun _h => ?_ | with_reducible refine alt_intro ?_ fun _h => ?_ | with_reducible refine pickD_nil ?_ | (with_reducible refine brc (fun _h => ?_) fun _h => ?_) <;> first | (exfalso; omega) | simp only [decide_eq_false _h] | simp only [(_h : (_ : Bool) = _)] | simp only [decide_eq_true _h] | skip)
  rw [Bool.eq_iff_iff]; simp; omega
theorem all_step {α : Type} {k : Nat} [Enc α k] {l : List α} {p : α → Bool} {i : Nat} (hi : i < l.length) (hI : l.all p = (l.drop i).all p) : l.all p = (p (nth l i) && (l.drop (i + 1)).all p) := by rw [hI, nth_drop hi, List.all_cons]
theorem any_step {α : Type} {k : Nat} [Enc α k] {l : List α} {p : α → Bool} {i : Nat} (hi : i < l.length) (hI : l.any p = (l.drop i).any p) : l.any p = (p (nth l i) || (l.drop (i + 1)).any p) := by rw [hI, nth_drop hi, List.any_cons]
/-- ablaut/depend.formed: 1 parameters, 0 captured -/
def s50 : SC := .seq (.reg [o1 2 (.mv (cI 0))])
  (.seq (.seq (.reg [o1 6 (.mv (.t 0)),
     o1 7 (.lenL (.t 6)),
     o1 8 (.bin .gtr (.t 7) (cI 200)),
     o1 9 (.mv (.t 8)),
     oF 10 (.mv (.t 0)) 9,
     oF 11 (.call (.f 79) [(.t 10), (.f 80)]) 9,
     o1 12 (.pick (.t 9) (cB true) (.t 11))])
    (.cond (.t 12) (.seq (.reg [o1 2 (.mv (cI 3))])
      (.ret)) (.skip)))
   (.seq (.seq (.reg [o1 13 (.mv (.t 0)),
      o1 14 (.lenL (.t 13)),
      o1 15 (.mv (cI 0))])
     (.block 0 (.loop (.seq (.reg [o1 16 (.bin .lss (.t 15) (.t 14))])
        (.seq (.cond (.t 16) (.skip) (.exit 0))
         (.seq (.block 1 (.seq (.reg [o1 17 (.iaddr 3 (.t 13) (.t 15)),
             o1 18 (.load (some 3) (.t 17)),
             o1 4 (.alloc 34 3 [(.slice none 0 0), (.int .i64 0), (.string ⟨#[]⟩)]),
             o0 (.store 3 (.t 4) (.t 18))])
            (.seq (.reg [o1 19 (.faddr 2 (.t 4)),
              o1 20 (.load none (.t 19)),
              o1 21 (.bin .eql (.t 20) (.c (.string ⟨#[]⟩))),
              o1 5 (.mv (.t 21))])
             (.seq (.seq (.reg [o1 22 (.faddr 1 (.t 4)),
                o1 23 (.load none (.t 22)),
                o1 24 (.bin .neq (.t 23) (cI (-2)))])
               (.cond (.t 24) (.reg [o1 25 (.faddr 2 (.t 4)),
                 o1 26 (.load none (.t 25)),
                 o1 27 (.call (.f 68) [(.t 26)]),
                 o1 5 (.mv (.t 27))]) (.skip)))
              (.seq (.reg [o1 28 (.faddr 0 (.t 4)),
                o1 29 (.load none (.t 28)),
                o1 30 (.call (.f 56) [(.t 29)]),
                o1 31 (.un .not (.t 30)),
                o1 32 (.mv (.t 31)),
                oF 33 (.faddr 1 (.t 4)) 32,
                oF 34 (.load none (.t 33)) 32,
                oF 35 (.bin .lss (.t 34) (cI (-2))) 32,
                o1 36 (.pick (.t 32) (cB true) (.t 35)),
                o1 37 (.mv (.t 36)),
                oF 38 (.faddr 1 (.t 4)) 37,
                oF 39 (.load none (.t 38)) 37,
                oF 40 (.mv (.t 0)) 37,
                oF 41 (.lenL (.t 40)) 37,
                oF 42 (.bin .geq (.t 39) (.t 41)) 37,
                o1 43 (.pick (.t 37) (cB true) (.t 42)),
                o1 44 (.mv (.t 43)),
                oF 45 (.mv (.t 5)) 44,
                oF 46 (.un .not (.t 45)) 44,
                o1 47 (.pick (.t 44) (cB true) (.t 46))])
               (.cond (.t 47) (.seq (.reg [o1 2 (.mv (cI 1))])
                 (.ret)) (.skip)))))))
          (.reg [o1 48 (.bin .add (.t 15) (cI 1)),
           o1 15 (.mv (.t 48))])))))))
    (.seq (.reg [o1 2 (.mv (cI 0))])
     (.ret))))
theorem s50_ok : lookF Try.prog 50 = some (s50, 49, [.tmp 2]) := by kernel_rfl
set_option maxHeartbeats 1000000 in
theorem formed_ok (l : List Hung) (hs : SmH l) : Fn P 50 [sl l] (intA (formE l)) := by
  have c1 := hngAny_ok l (fun h => decide (16 < h.1.length)) 80 [] (by simp) (fun h _ => long1_ok h)
  by_cases hL : 200 < l.length ∨ (l.any fun h => decide (16 < h.1.length)) = true
  · rw [formE, if_pos hL]
    by_cases hL2 : 200 < l.length
    · (refine fn_look s50_ok (by simp) (by intro k; simp only [go_sem, Nat.reduceEqDiff, ↓reduceIte, reduceCtorEq, Nat.reduceAdd, Nat.reduceMul, Int.reduceToNat, List.reduceReplicate, Nat.reduceLeDiff, Nat.reduceLT, Int.reduceLT, Int.reduceLE, Int.reduceEq]) fun S hS => cwp_sound _ _ _ _ ?_; simp (disch := omega) only [s50, go_sem, Nat.reduceEqDiff, ↓reduceIte, reduceCtorEq, Nat.reduceAdd, Nat.reduceMul, Int.reduceToNat, List.reduceReplicate, Nat.reduceLeDiff, Nat.reduceLT, Int.reduceLT, Int.reduceLE, Int.reduceEq])
      repeat' (first | with_reducible refine inw ?_ | simp (disch := omega) only [go_sem, Nat.reduceEqDiff, ↓reduceIte, reduceCtorEq, Nat.reduceAdd, Nat.reduceMul, Int.reduceToNat, List.reduceReplicate, Nat.reduceLeDiff, Nat.reduceLT, Int.reduceLT, Int.reduceLE, Int.reduceEq] | (with_reducible apply call (c1)); (focus simp (disch := omega) only [go_sem, Nat.reduceEqDiff, ↓reduceIte, reduceCtorEq, Nat.reduceAdd, Nat.reduceMul, Int.reduceToNat, List.reduceReplicate, Nat.reduceLeDiff, Nat.reduceLT, Int.reduceLT, Int.reduceLE, Int.reduceEq] <;> rfl) | with_reducible refine giv_intro fun _h => ?_ | with_reducible refine alt_intro ?_ fun _h => ?_ | with_reducible refine pickD_nil ?_ | (with_reducible refine brc (fun _h => ?_) fun _h => ?_) <;> first | (exfalso; omega) | simp only [decide_eq_false _h] | simp only [(_h : (_ : Bool) = _)] | simp only [decide_eq_true _h] | skip)
    · have hL3 := hL.resolve_left hL2
      rw [hL3] at c1
      (refine fn_look s50_ok (by simp) (by intro k; simp only [go_sem, Nat.reduceEqDiff, ↓reduceIte, reduceCtorEq, Nat.reduceAdd, Nat.reduceMul, Int.reduceToNat, List.reduceReplicate, Nat.reduceLeDiff, Nat.reduceLT, Int.reduceLT, Int.reduceLE, Int.reduceEq]) fun S hS => cwp_sound _ _ _ _ ?_; simp (disch := omega) only [s50, go_sem, Nat.reduceEqDiff, ↓reduceIte, reduceCtorEq, Nat.reduceAdd, Nat.reduceMul, Int.reduceToNat, List.reduceReplicate, Nat.reduceLeDiff, Nat.reduceLT, Int.reduceLT, Int.reduceLE, Int.reduceEq])
      repeat' (first | with_reducible refine inw ?_ | simp (disch := omega) only [go_sem, Nat.reduceEqDiff, ↓reduceIte, reduceCtorEq, Nat.reduceAdd, Nat.reduceMul, Int.reduceToNat, List.reduceReplicate, Nat.reduceLeDiff, Nat.reduceLT, Int.reduceLT, Int.reduceLE, Int.reduceEq] | (with_reducible apply call (c1)); (focus simp (disch := omega) only [go_sem, Nat.reduceEqDiff, ↓reduceIte, reduceCtorEq, Nat.reduceAdd, Nat.reduceMul, Int.reduceToNat, List.reduceReplicate, Nat.reduceLeDiff, Nat.reduceLT, Int.reduceLT, Int.reduceLE, Int.reduceEq] <;> rfl) | with_reducible refine giv_intro fun _h => ?_ | with_reducible refine alt_intro ?_ fun _h => ?_ | with_reducible refine pickD_nil ?_ | (with_reducible refine brc (fun _h => ?_) fun _h => ?_) <;> first | (exfalso; omega) | simp only [decide_eq_false _h] | simp only [(_h : (_ : Bool) = _)] | simp only [decide_eq_true _h] | skip)
  · rw [formE, if_neg hL]
    have hL2 : ¬200 < l.length := fun h => hL (.inl h)
    have hL3 : (l.any fun h => decide (16 < h.1.length)) = false := by rw [← Bool.not_eq_true]; exact fun h => hL (.inr h)
    rw [hL3] at c1
    (refine fn_look s50_ok (by simp) (by intro k; simp only [go_sem, Nat.reduceEqDiff, ↓reduceIte, reduceCtorEq, Nat.reduceAdd, Nat.reduceMul, Int.reduceToNat, List.reduceReplicate, Nat.reduceLeDiff, Nat.reduceLT, Int.reduceLT, Int.reduceLE, Int.reduceEq]) fun S hS => cwp_sound _ _ _ _ ?_; simp (disch := omega) only [s50, go_sem, Nat.reduceEqDiff, ↓reduceIte, reduceCtorEq, Nat.reduceAdd, Nat.reduceMul, Int.reduceToNat, List.reduceReplicate, Nat.reduceLeDiff, Nat.reduceLT, Int.reduceLT, Int.reduceLE, Int.reduceEq])
    repeat' (first | with_reducible refine inw ?_ | simp (disch := omega) only [go_sem, Nat.reduceEqDiff, ↓reduceIte, reduceCtorEq, Nat.reduceAdd, Nat.reduceMul, Int.reduceToNat, List.reduceReplicate, Nat.reduceLeDiff, Nat.reduceLT, Int.reduceLT, Int.reduceLE, Int.reduceEq] | (with_reducible apply call (c1)); (focus simp (disch := omega) only [go_sem, Nat.reduceEqDiff, ↓reduceIte, reduceCtorEq, Nat.reduceAdd, Nat.reduceMul, Int.reduceToNat, List.reduceReplicate, Nat.reduceLeDiff, Nat.reduceLT, Int.reduceLT, Int.reduceLE, Int.reduceEq] <;> rfl) | with_reducible refine giv_intro fun _h => ?_ | with_reducible refine alt_intro ?_ fun _h => ?_ | with_reducible refine pickD_nil ?_ | (with_reducible refine brc (fun _h => ?_) fun _h => ?_) <;> first | (exfalso; omega) | simp only [decide_eq_false _h] | simp only [(_h : (_ : Bool) = _)] | simp only [decide_eq_true _h] | skip)
    (refine loopC hS [0, 13, 14] (by simp only [go_sem, Nat.reduceEqDiff, ↓reduceIte, reduceCtorEq, Nat.reduceAdd, Nat.reduceMul, Int.reduceToNat, List.reduceReplicate, Nat.reduceLeDiff, Nat.reduceLT, Int.reduceLT, Int.reduceLE, Int.reduceEq]; try rfl) (fun (i : Nat) => [(15, intA i)]) (fun (i : Nat) => []) (fun (i : Nat) => i ≤ l.length ∧ l.all (goodH l.length) = (l.drop i).all (goodH l.length)) (fun (i : Nat) => l.length - i) (0) ?h01 ?hn1 ?rd1; case hn1 => (intro s; first | rfl | (rcases s with ⟨_, _⟩; rfl) | (rcases s with ⟨_, _, _⟩; rfl) | (rcases s with ⟨_, _, _, _⟩; rfl) | (rcases s with ⟨_, _, _, _, _⟩; rfl)))
    · simp (disch := omega) only [go_sem, Nat.reduceEqDiff, ↓reduceIte, reduceCtorEq, Nat.reduceAdd, Nat.reduceMul, Int.reduceToNat, List.reduceReplicate, Nat.reduceLeDiff, Nat.reduceLT, Int.reduceLT, Int.reduceLE, Int.reduceEq]; simp
    rintro i ⟨hi, hI⟩
    replace hi : i ≤ l.length := hi
    replace hI : l.all (goodH l.length) = (l.drop i).all (goodH l.length) := hI
    by_cases hil : i < l.length
    · have hst := all_step hil hI
      obtain ⟨hz1, hz2⟩ := hs.2 _ (nth_mem hil)
      have c2 := isName_ok (nth l i).2.2 (by omega)
      have c3 := isSet_ok (nth l i).1 hz2.sizes
      have hg : goodH l.length (nth l i) = (setB (nth l i).1 && (decide (-2 ≤ (nth l i).2.1) && (decide ((nth l i).2.1 < l.length) && labB (nth l i)))) := rfl
      have bad : goodH l.length (nth l i) = false → (1 : Int) = if l.all (goodH l.length) = true then 0 else 1 := fun h => by rw [hst, h]; rfl
      have good : goodH l.length (nth l i) = true → l.all (goodH l.length) = (l.drop (i + 1)).all (goodH l.length) := fun h => by rw [hst, h, Bool.true_and]
      by_cases h2 : (nth l i).2.1 = -2
      · have hlab : labB (nth l i) = decide ((nth l i).2.2 = ⟨#[]⟩) := by rw [labB, if_pos h2]
        rw [hlab] at hg
        repeat' (first | with_reducible refine inw ?_ | simp (disch := omega) only [go_sem, Nat.reduceEqDiff, ↓reduceIte, reduceCtorEq, Nat.reduceAdd, Nat.reduceMul, Int.reduceToNat, List.reduceReplicate, Nat.reduceLeDiff, Nat.reduceLT, Int.reduceLT, Int.reduceLE, Int.reduceEq, h2] | (with_reducible apply call (c2)); (focus simp (disch := omega) only [go_sem, Nat.reduceEqDiff, ↓reduceIte, reduceCtorEq, Nat.reduceAdd, Nat.reduceMul, Int.reduceToNat, List.reduceReplicate, Nat.reduceLeDiff, Nat.reduceLT, Int.reduceLT, Int.reduceLE, Int.reduceEq, h2] <;> rfl) | (with_reducible apply call (c3)); (focus simp (disch := omega) only [go_sem, Nat.reduceEqDiff, ↓reduceIte, reduceCtorEq, Nat.reduceAdd, Nat.reduceMul, Int.reduceToNat, List.reduceReplicate, Nat.reduceLeDiff, Nat.reduceLT, Int.reduceLT, Int.reduceLE, Int.reduceEq, h2] <;> rfl) | with_reducible refine giv_intro fun _h => ?_ | with_reducible refine alt_intro ?_ fun _h => ?_ | with_reducible refine pickD_nil ?_ | (with_reducible refine brc (fun _h => ?_) fun _h => ?_) <;> first | (exfalso; omega) | simp only [decide_eq_false _h] | simp only [(_h : (_ : Bool) = _)] | simp only [decide_eq_true _h] | skip)
        all_goals first
          | exact bad (by rw [hg, ← Bool.not_eq_true]; simp only [Bool.and_eq_true, decide_eq_true_eq]; rintro ⟨q1, q2, q3, q4⟩; first | omega | (rw [q1] at _h; cases _h) | exact _h q4 | (rw [q4] at _h; cases _h))
          | exact ⟨i + 1, ⟨by omega, by omega, good (by rw [hg]; simp only [Bool.and_eq_true, decide_eq_true_eq]; exact ⟨by assumption, by omega, by omega, by assumption⟩)⟩, by omega⟩
      · have hlab : labB (nth l i) = nameB (nth l i).2.2 := by rw [labB, if_neg h2]
        rw [hlab] at hg
        repeat' (first | with_reducible refine inw ?_ | simp (disch := omega) only [go_sem, Nat.reduceEqDiff, ↓reduceIte, reduceCtorEq, Nat.reduceAdd, Nat.reduceMul, Int.reduceToNat, List.reduceReplicate, Nat.reduceLeDiff, Nat.reduceLT, Int.reduceLT, Int.reduceLE, Int.reduceEq, h2] | (with_reducible apply call (c2)); (focus simp (disch := omega) only [go_sem, Nat.reduceEqDiff, ↓reduceIte, reduceCtorEq, Nat.reduceAdd, Nat.reduceMul, Int.reduceToNat, List.reduceReplicate, Nat.reduceLeDiff, Nat.reduceLT, Int.reduceLT, Int.reduceLE, Int.reduceEq, h2] <;> rfl) | (with_reducible apply call (c3)); (focus simp (disch := omega) only [go_sem, Nat.reduceEqDiff, ↓reduceIte, reduceCtorEq, Nat.reduceAdd, Nat.reduceMul, Int.reduceToNat, List.reduceReplicate, Nat.reduceLeDiff, Nat.reduceLT, Int.reduceLT, Int.reduceLE, Int.reduceEq, h2] <;> rfl) | with_reducible refine giv_intro fun _h => ?_ | with_reducible refine alt_intro ?_ fun _h => ?_ | with_reducible refine pickD_nil ?_ | (with_reducible refine brc (fun _h => ?_) fun _h => ?_) <;> first | (exfalso; omega) | simp only [decide_eq_false _h] | simp only [(_h : (_ : Bool) = _)] | simp only [decide_eq_true _h] | skip)
        all_goals first
          | exact bad (by rw [hg, ← Bool.not_eq_true]; simp only [Bool.and_eq_true, decide_eq_true_eq]; rintro ⟨q1, q2, q3, q4⟩; first | omega | (rw [q1] at _h; cases _h) | exact _h q4 | (rw [q4] at _h; cases _h))
          | exact ⟨i + 1, ⟨by omega, by omega, good (by rw [hg]; simp only [Bool.and_eq_true, decide_eq_true_eq]; exact ⟨by assumption, by omega, by omega, by assumption⟩)⟩, by omega⟩
    · rw [List.drop_eq_nil_of_le (by omega)] at hI
      rw [hI]
      repeat' (first | with_reducible refine inw ?_ | simp (disch := omega) only [go_sem, Nat.reduceEqDiff, ↓reduceIte, reduceCtorEq, Nat.reduceAdd, Nat.reduceMul, Int.reduceToNat, List.reduceReplicate, Nat.reduceLeDiff, Nat.reduceLT, Int.reduceLT, Int.reduceLE, Int.reduceEq] | with_reducible refine giv_intro fun _h => ?_ | with_reducible refine alt_intro ?_ fun _h => ?_ | with_reducible refine pickD_nil ?_ | (with_reducible refine brc (fun _h => ?_) fun _h => ?_) <;> first | (exfalso; omega) | simp only [decide_eq_false _h] | simp only [(_h : (_ : Bool) = _)] | simp only [decide_eq_true _h] | skip)
theorem hd_nth {l : List Hung} {x : Int} (h : 0 ≤ x) : hd l x = (nth l x.toNat).2.1 := by rw [hd, if_neg (by omega)]
/-- ablaut/depend.rings: 1 parameters, 0 captured -/
def s51 : SC := .seq (.reg [o1 2 (.mv (cB false))])
  (.scope (.seq (.skip)
    (.seq (.seq (.reg [o1 5 (.mv (.t 0)),
       o1 6 (.lenL (.t 5)),
       o1 7 (.mv (cI 0))])
      (.block 0 (.loop (.seq (.reg [o1 8 (.bin .lss (.t 7) (.t 6))])
         (.seq (.cond (.t 8) (.skip) (.exit 0))
          (.seq (.block 1 (.seq (.reg [o1 9 (.mv (.t 7)),
              o1 3 (.mv (.t 9))])
             (.seq (.reg [o1 10 (.mv (.t 3)),
               o1 4 (.mv (.t 10))])
              (.seq (.reg [o1 11 (.mv (.t 0)),
                o1 12 (.lenL (.t 11)),
                o1 13 (.mv (cI 0))])
               (.block 2 (.loop (.seq (.reg [o1 14 (.bin .lss (.t 13) (.t 12))])
                  (.seq (.cond (.t 14) (.skip) (.exit 2))
                   (.seq (.block 3 (.seq (.seq (.reg [o1 15 (.mv (.t 0)),
                        o1 16 (.mv (.t 4)),
                        o1 17 (.iaddr 3 (.t 15) (.t 16)),
                        o1 18 (.faddr 1 (.t 17)),
                        o1 19 (.load none (.t 18)),
                        o1 4 (.mv (.t 19))])
                       (.seq (.reg [o1 20 (.mv (.t 4)),
                         o1 21 (.bin .lss (.t 20) (cI 0))])
                        (.cond (.t 21) (.exit 1) (.skip))))
                      (.seq (.reg [o1 22 (.mv (.t 4)),
                        o1 23 (.mv (.t 3)),
                        o1 24 (.bin .eql (.t 22) (.t 23))])
                       (.cond (.t 24) (.seq (.reg [o1 2 (.mv (cB true))])
                         (.ret)) (.skip)))))
                    (.reg [o1 25 (.bin .add (.t 13) (cI 1)),
                     o1 13 (.mv (.t 25))]))))))))))
           (.reg [o1 26 (.bin .add (.t 7) (cI 1)),
            o1 7 (.mv (.t 26))])))))))
     (.seq (.reg [o1 2 (.mv (cB false))])
      (.ret)))))
theorem s51_ok : lookF Try.prog 51 = some (s51, 27, [.tmp 2]) := by kernel_rfl
set_option maxHeartbeats 1000000 in
theorem rings_ok (l : List Hung) (hl : Hds l) : Fn P 51 [sl l] (boolA (ringsB l)) := by
  (refine fn_look s51_ok (by simp) (by intro k; simp only [go_sem, Nat.reduceEqDiff, ↓reduceIte, reduceCtorEq, Nat.reduceAdd, Nat.reduceMul, Int.reduceToNat, List.reduceReplicate, Nat.reduceLeDiff, Nat.reduceLT, Int.reduceLT, Int.reduceLE, Int.reduceEq]) fun S hS => cwp_sound _ _ _ _ ?_; simp (disch := omega) only [s51, go_sem, Nat.reduceEqDiff, ↓reduceIte, reduceCtorEq, Nat.reduceAdd, Nat.reduceMul, Int.reduceToNat, List.reduceReplicate, Nat.reduceLeDiff, Nat.reduceLT, Int.reduceLT, Int.reduceLE, Int.reduceEq])
  repeat' (first | with_reducible refine inw ?_ | simp (disch := omega) only [go_sem, Nat.reduceEqDiff, ↓reduceIte, reduceCtorEq, Nat.reduceAdd, Nat.reduceMul, Int.reduceToNat, List.reduceReplicate, Nat.reduceLeDiff, Nat.reduceLT, Int.reduceLT, Int.reduceLE, Int.reduceEq] | with_reducible refine giv_intro fun _h => ?_ | with_reducible refine alt_intro ?_ fun _h => ?_ | with_reducible refine pickD_nil ?_ | (with_reducible refine brc (fun _h => ?_) fun _h => ?_) <;> first | (exfalso; omega) | simp only [decide_eq_false _h] | simp only [(_h : (_ : Bool) = _)] | simp only [decide_eq_true _h] | skip)
  (refine loopC hS [0, 6] (by simp only [go_sem, Nat.reduceEqDiff, ↓reduceIte, reduceCtorEq, Nat.reduceAdd, Nat.reduceMul, Int.reduceToNat, List.reduceReplicate, Nat.reduceLeDiff, Nat.reduceLT, Int.reduceLT, Int.reduceLE, Int.reduceEq]; try rfl) (fun (i : Nat) => [(7, intA i)]) (fun (i : Nat) => []) (fun (i : Nat) => i ≤ l.length ∧ ∀ j, j < i → hangsF l j l.length (hd l j) = false) (fun (i : Nat) => l.length - i) (0) ?h04 ?hn4 ?rd4; case hn4 => (intro s; first | rfl | (rcases s with ⟨_, _⟩; rfl) | (rcases s with ⟨_, _, _⟩; rfl) | (rcases s with ⟨_, _, _, _⟩; rfl) | (rcases s with ⟨_, _, _, _, _⟩; rfl)))
  · simp (disch := omega) only [go_sem, Nat.reduceEqDiff, ↓reduceIte, reduceCtorEq, Nat.reduceAdd, Nat.reduceMul, Int.reduceToNat, List.reduceReplicate, Nat.reduceLeDiff, Nat.reduceLT, Int.reduceLT, Int.reduceLE, Int.reduceEq]; simp
  rintro i ⟨hi, hI⟩
  replace hi : i ≤ l.length := hi
  replace hI : ∀ j, j < i → hangsF l j l.length (hd l j) = false := hI
  by_cases hil : i < l.length
  · repeat' (first | with_reducible refine inw ?_ | simp (disch := omega) only [go_sem, Nat.reduceEqDiff, ↓reduceIte, reduceCtorEq, Nat.reduceAdd, Nat.reduceMul, Int.reduceToNat, List.reduceReplicate, Nat.reduceLeDiff, Nat.reduceLT, Int.reduceLT, Int.reduceLE, Int.reduceEq] | with_reducible refine giv_intro fun _h => ?_ | with_reducible refine alt_intro ?_ fun _h => ?_ | with_reducible refine pickD_nil ?_ | (with_reducible refine brc (fun _h => ?_) fun _h => ?_) <;> first | (exfalso; omega) | simp only [decide_eq_false _h] | simp only [(_h : (_ : Bool) = _)] | simp only [decide_eq_true _h] | skip)
    (refine loopC hS [0, 3, 6, 7, 12] (by simp only [go_sem, Nat.reduceEqDiff, ↓reduceIte, reduceCtorEq, Nat.reduceAdd, Nat.reduceMul, Int.reduceToNat, List.reduceReplicate, Nat.reduceLeDiff, Nat.reduceLT, Int.reduceLT, Int.reduceLE, Int.reduceEq]; try rfl) (fun (⟨k, at'⟩ : Nat × Int) => [(4, intA at'), (13, intA k)]) (fun (⟨k, at'⟩ : Nat × Int) => []) (fun (⟨k, at'⟩ : Nat × Int) => k ≤ l.length ∧ 0 ≤ at' ∧ at' < l.length ∧ hangsF l i l.length (hd l i) = hangsF l i (l.length - k) (hd l at')) (fun (⟨k, at'⟩ : Nat × Int) => l.length - k) ((0, (i : Int))) ?h05 ?hn5 ?rd5; case hn5 => (intro s; first | rfl | (rcases s with ⟨_, _⟩; rfl) | (rcases s with ⟨_, _, _⟩; rfl) | (rcases s with ⟨_, _, _, _⟩; rfl) | (rcases s with ⟨_, _, _, _, _⟩; rfl)))
    · simp (disch := omega) only [go_sem, Nat.reduceEqDiff, ↓reduceIte, reduceCtorEq, Nat.reduceAdd, Nat.reduceMul, Int.reduceToNat, List.reduceReplicate, Nat.reduceLeDiff, Nat.reduceLT, Int.reduceLT, Int.reduceLE, Int.reduceEq]; simp
      omega
    rintro ⟨k, at'⟩ ⟨hk, ha0, ha1, hK⟩
    replace hk : k ≤ l.length := hk
    replace ha0 : 0 ≤ at' := ha0
    replace ha1 : at' < l.length := ha1
    replace hK : hangsF l i l.length (hd l i) = hangsF l i (l.length - k) (hd l at') := hK
    by_cases hkl : k < l.length
    · rw [show l.length - k = (l.length - (k + 1)) + 1 by omega, hangsF] at hK
      have hh := hd_nth (l := l) ha0
      have hn := hl at'.toNat (by omega)
      rw [← hh] at hn
      generalize hd l at' = a at *
      repeat' (first | with_reducible refine inw ?_ | simp (disch := omega) only [go_sem, Nat.reduceEqDiff, ↓reduceIte, reduceCtorEq, Nat.reduceAdd, Nat.reduceMul, Int.reduceToNat, List.reduceReplicate, Nat.reduceLeDiff, Nat.reduceLT, Int.reduceLT, Int.reduceLE, Int.reduceEq, ← hh] | with_reducible refine giv_intro fun _h => ?_ | with_reducible refine alt_intro ?_ fun _h => ?_ | with_reducible refine pickD_nil ?_ | (with_reducible refine brc (fun _h => ?_) fun _h => ?_) <;> first | (exfalso; omega) | simp only [decide_eq_false _h] | simp only [(_h : (_ : Bool) = _)] | simp only [decide_eq_true _h] | skip)
      · rw [if_pos _h] at hK
        exact ⟨i + 1, ⟨by omega, by omega, allN_step hI hK⟩, by omega⟩
      · rw [if_neg (by omega), if_pos _h] at hK
        refine (List.any_eq_true.2 ⟨i, List.mem_range.2 hil, hK⟩ : ringsB l = true).symm
      · rw [if_neg (by omega), if_neg _h] at hK
        exact ⟨(k + 1, a), ⟨by omega, by omega, by omega, by omega, hK⟩, rfl, by omega⟩
    · rw [show l.length - k = 0 by omega, hangsF] at hK
      repeat' (first | with_reducible refine inw ?_ | simp (disch := omega) only [go_sem, Nat.reduceEqDiff, ↓reduceIte, reduceCtorEq, Nat.reduceAdd, Nat.reduceMul, Int.reduceToNat, List.reduceReplicate, Nat.reduceLeDiff, Nat.reduceLT, Int.reduceLT, Int.reduceLE, Int.reduceEq] | with_reducible refine giv_intro fun _h => ?_ | with_reducible refine alt_intro ?_ fun _h => ?_ | with_reducible refine pickD_nil ?_ | (with_reducible refine brc (fun _h => ?_) fun _h => ?_) <;> first | (exfalso; omega) | simp only [decide_eq_false _h] | simp only [(_h : (_ : Bool) = _)] | simp only [decide_eq_true _h] | skip)
      exact ⟨i + 1, ⟨by omega, by omega, allN_step hI hK⟩, by omega⟩
  · repeat' (first | with_reducible refine inw ?_ | simp (disch := omega) only [go_sem, Nat.reduceEqDiff, ↓reduceIte, reduceCtorEq, Nat.reduceAdd, Nat.reduceMul, Int.reduceToNat, List.reduceReplicate, Nat.reduceLeDiff, Nat.reduceLT, Int.reduceLT, Int.reduceLE, Int.reduceEq] | with_reducible refine giv_intro fun _h => ?_ | with_reducible refine alt_intro ?_ fun _h => ?_ | with_reducible refine pickD_nil ?_ | (with_reducible refine brc (fun _h => ?_) fun _h => ?_) <;> first | (exfalso; omega) | simp only [decide_eq_false _h] | simp only [(_h : (_ : Bool) = _)] | simp only [decide_eq_true _h] | skip)
    refine (List.any_eq_false.2 fun j hj => ?_ : ringsB l = false).symm
    rw [hI j (by have := List.mem_range.1 hj; omega)]; simp
/-- ablaut/depend.hangs: 3 parameters, 0 captured -/
def s58 : SC := .seq (.reg [o1 6 (.mv (cB false))])
  (.seq (.block 0 (.loop (.seq (.seq (.reg [o1 7 (.mv (.t 1)),
        o1 8 (.bin .geq (.t 7) (cI 0)),
        o1 9 (.mv (.t 8)),
        oT 10 (.mv (.t 1)) 9,
        oT 11 (.mv (.t 2)) 9,
        oT 12 (.bin .neq (.t 10) (.t 11)) 9,
        o1 13 (.pick (.t 9) (.t 12) (cB false))])
       (.cond (.t 13) (.skip) (.exit 0)))
      (.block 1 (.reg [o1 14 (.mv (.t 0)),
        o1 15 (.mv (.t 1)),
        o1 16 (.iaddr 3 (.t 14) (.t 15)),
        o1 17 (.faddr 1 (.t 16)),
        o1 18 (.load none (.t 17)),
        o1 1 (.mv (.t 18))])))))
   (.seq (.reg [o1 19 (.mv (.t 1)),
     o1 20 (.mv (.t 2)),
     o1 21 (.bin .eql (.t 19) (.t 20)),
     o1 6 (.mv (.t 21))])
    (.ret)))
theorem s58_ok : lookF Try.prog 58 = some (s58, 22, [.tmp 6]) := by kernel_rfl
/-- What hangs on what, where each chain ends. -/
theorem hangs_ok (l : List Hung) (hl : Hds l) (he : Ends l) (x on : Int) (h0 : -2 ≤ x) (hx : x < l.length) (ho : 0 ≤ on) : Fn P 58 [sl l, intA x, intA on] (boolA (hgB l x on)) := by
  have hiff := hgB_iff hl he hx (on := on)
  (refine fn_look s58_ok (by simp) (by intro k; simp only [go_sem, Nat.reduceEqDiff, ↓reduceIte, reduceCtorEq, Nat.reduceAdd, Nat.reduceMul, Int.reduceToNat, List.reduceReplicate, Nat.reduceLeDiff, Nat.reduceLT, Int.reduceLT, Int.reduceLE, Int.reduceEq]) fun S hS => cwp_sound _ _ _ _ ?_; simp (disch := omega) only [s58, go_sem, Nat.reduceEqDiff, ↓reduceIte, reduceCtorEq, Nat.reduceAdd, Nat.reduceMul, Int.reduceToNat, List.reduceReplicate, Nat.reduceLeDiff, Nat.reduceLT, Int.reduceLT, Int.reduceLE, Int.reduceEq])
  (refine loopC hS [0, 2] (by simp only [go_sem, Nat.reduceEqDiff, ↓reduceIte, reduceCtorEq, Nat.reduceAdd, Nat.reduceMul, Int.reduceToNat, List.reduceReplicate, Nat.reduceLeDiff, Nat.reduceLT, Int.reduceLT, Int.reduceLE, Int.reduceEq]; try rfl) (fun (y : Int) => [(1, intA y)]) (fun (y : Int) => []) (fun (y : Int) => -2 ≤ y ∧ y < l.length ∧ (Hg l x on ↔ Hg l y on)) (fun (y : Int) => far l (l.length + 1) y) (x) ?h06 ?hn6 ?rd6; case hn6 => (intro s; first | rfl | (rcases s with ⟨_, _⟩; rfl) | (rcases s with ⟨_, _, _⟩; rfl) | (rcases s with ⟨_, _, _, _⟩; rfl) | (rcases s with ⟨_, _, _, _, _⟩; rfl)))
  · exact ⟨⟨h0, hx, Iff.rfl⟩, by simp (disch := omega) only [go_sem, Nat.reduceEqDiff, ↓reduceIte, reduceCtorEq, Nat.reduceAdd, Nat.reduceMul, Int.reduceToNat, List.reduceReplicate, Nat.reduceLeDiff, Nat.reduceLT, Int.reduceLT, Int.reduceLE, Int.reduceEq]⟩
  rintro y ⟨hy0, hy1, hI⟩
  replace hy0 : -2 ≤ y := hy0
  replace hy1 : y < l.length := hy1
  replace hI : Hg l x on ↔ Hg l y on := hI
  by_cases hn : 0 ≤ y
  · have hh := hd_nth (l := l) hn
    by_cases hy : y = on
    · have : hgB l x on = true := hiff.2 (hI.2 (hy ▸ hg_self hn))
      rw [this]
      subst hy
      repeat' (first | with_reducible refine inw ?_ | simp (disch := omega) only [go_sem, Nat.reduceEqDiff, ↓reduceIte, reduceCtorEq, Nat.reduceAdd, Nat.reduceMul, Int.reduceToNat, List.reduceReplicate, Nat.reduceLeDiff, Nat.reduceLT, Int.reduceLT, Int.reduceLE, Int.reduceEq] | with_reducible refine giv_intro fun _h => ?_ | with_reducible refine alt_intro ?_ fun _h => ?_ | with_reducible refine pickD_nil ?_ | (with_reducible refine brc (fun _h => ?_) fun _h => ?_) <;> first | (exfalso; omega) | simp only [decide_eq_false _h] | simp only [(_h : (_ : Bool) = _)] | simp only [decide_eq_true _h] | skip)
    · have hlt := far_step hl he hn hy1
      have hlo := hd_lo hl hy1 hy0
      have hlt2 := hd_lt hl hy1
      rw [hg_step hn hy] at hI
      repeat' (first | with_reducible refine inw ?_ | simp (disch := omega) only [go_sem, Nat.reduceEqDiff, ↓reduceIte, reduceCtorEq, Nat.reduceAdd, Nat.reduceMul, Int.reduceToNat, List.reduceReplicate, Nat.reduceLeDiff, Nat.reduceLT, Int.reduceLT, Int.reduceLE, Int.reduceEq, ← hh] | with_reducible refine giv_intro fun _h => ?_ | with_reducible refine alt_intro ?_ fun _h => ?_ | with_reducible refine pickD_nil ?_ | (with_reducible refine brc (fun _h => ?_) fun _h => ?_) <;> first | (exfalso; omega) | simp only [decide_eq_false _h] | simp only [(_h : (_ : Bool) = _)] | simp only [decide_eq_true _h] | skip)
      exact ⟨hd l y, ⟨by omega, by omega, by omega, hI⟩, rfl⟩
  · have : hgB l x on = false := by rw [← Bool.not_eq_true, hiff, hI]; exact hg_neg (by omega)
    rw [this]
    repeat' (first | with_reducible refine inw ?_ | simp (disch := omega) only [go_sem, Nat.reduceEqDiff, ↓reduceIte, reduceCtorEq, Nat.reduceAdd, Nat.reduceMul, Int.reduceToNat, List.reduceReplicate, Nat.reduceLeDiff, Nat.reduceLT, Int.reduceLT, Int.reduceLE, Int.reduceEq] | with_reducible refine giv_intro fun _h => ?_ | with_reducible refine alt_intro ?_ fun _h => ?_ | with_reducible refine pickD_nil ?_ | (with_reducible refine brc (fun _h => ?_) fun _h => ?_) <;> first | (exfalso; omega) | simp only [decide_eq_false _h] | simp only [(_h : (_ : Bool) = _)] | simp only [decide_eq_true _h] | skip)
    exact decide_eq_false (by omega)
/-- The error of a frame. -/
def valE (l : List Hung) : Int := if formE l ≠ 0 then formE l else if ringsB l = true then 7 else 0
theorem valE_ok {l : List Hung} (h : valE l = 0) : l.length ≤ 200 ∧ Hds l ∧ Ends l := by
  unfold valE at h
  split at h
  · rename_i h1; exact absurd h h1
  · rename_i h1
    have h2 : formE l = 0 := by omega
    have hl := formE_hds h2
    refine ⟨formE_len h2, hl, (ringsB_ends hl).1 ?_⟩
    split at h
    · cases h
    · rename_i h3; simpa using h3
/-- ablaut/depend.Validate: 1 parameters, 0 captured -/
def s37 : SC := .seq (.reg [o1 2 (.mv (cI 0))])
  (.seq (.seq (.reg [o1 4 (.mv (.t 0)),
     o1 5 (.call (.f 50) [(.t 4)]),
     o1 3 (.mv (.t 5))])
    (.seq (.reg [o1 6 (.mv (.t 3)),
      o1 7 (.bin .neq (.t 6) (cI 0))])
     (.cond (.t 7) (.seq (.reg [o1 8 (.mv (.t 3)),
        o1 2 (.mv (.t 8))])
       (.ret)) (.skip))))
   (.seq (.seq (.reg [o1 9 (.mv (.t 0)),
      o1 10 (.call (.f 51) [(.t 9)])])
     (.cond (.t 10) (.seq (.reg [o1 2 (.mv (cI 7))])
       (.ret)) (.skip)))
    (.seq (.reg [o1 2 (.mv (cI 0))])
     (.ret))))
theorem s37_ok : lookF Try.prog 37 = some (s37, 11, [.tmp 2]) := by kernel_rfl
theorem validate_ok (l : List Hung) (hs : SmH l) : Fn P 37 [sl l] (intA (valE l)) := by
  have c1 := formed_ok l hs
  unfold valE
  by_cases h : formE l = 0
  · rw [if_neg (by omega)]
    rw [h] at c1
    have c2 := rings_ok l (formE_hds h)
    (refine fn_look s37_ok (by simp) (by intro k; simp only [go_sem, Nat.reduceEqDiff, ↓reduceIte, reduceCtorEq, Nat.reduceAdd, Nat.reduceMul, Int.reduceToNat, List.reduceReplicate, Nat.reduceLeDiff, Nat.reduceLT, Int.reduceLT, Int.reduceLE, Int.reduceEq]) fun S hS => cwp_sound _ _ _ _ ?_; simp (disch := omega) only [s37, go_sem, Nat.reduceEqDiff, ↓reduceIte, reduceCtorEq, Nat.reduceAdd, Nat.reduceMul, Int.reduceToNat, List.reduceReplicate, Nat.reduceLeDiff, Nat.reduceLT, Int.reduceLT, Int.reduceLE, Int.reduceEq])
    repeat' (first | with_reducible refine inw ?_ | simp (disch := omega) only [go_sem, Nat.reduceEqDiff, ↓reduceIte, reduceCtorEq, Nat.reduceAdd, Nat.reduceMul, Int.reduceToNat, List.reduceReplicate, Nat.reduceLeDiff, Nat.reduceLT, Int.reduceLT, Int.reduceLE, Int.reduceEq] | (with_reducible apply call (c1)); (focus simp (disch := omega) only [go_sem, Nat.reduceEqDiff, ↓reduceIte, reduceCtorEq, Nat.reduceAdd, Nat.reduceMul, Int.reduceToNat, List.reduceReplicate, Nat.reduceLeDiff, Nat.reduceLT, Int.reduceLT, Int.reduceLE, Int.reduceEq] <;> rfl) | (with_reducible apply call (c2)); (focus simp (disch := omega) only [go_sem, Nat.reduceEqDiff, ↓reduceIte, reduceCtorEq, Nat.reduceAdd, Nat.reduceMul, Int.reduceToNat, List.reduceReplicate, Nat.reduceLeDiff, Nat.reduceLT, Int.reduceLT, Int.reduceLE, Int.reduceEq] <;> rfl) | with_reducible refine giv_intro fun _h => ?_ | with_reducible refine alt_intro ?_ fun _h => ?_ | with_reducible refine pickD_nil ?_ | (with_reducible refine brc (fun _h => ?_) fun _h => ?_) <;> first | (exfalso; omega) | simp only [decide_eq_false _h] | simp only [(_h : (_ : Bool) = _)] | simp only [decide_eq_true _h] | skip)
    all_goals rfl
  · rw [if_pos h]
    (refine fn_look s37_ok (by simp) (by intro k; simp only [go_sem, Nat.reduceEqDiff, ↓reduceIte, reduceCtorEq, Nat.reduceAdd, Nat.reduceMul, Int.reduceToNat, List.reduceReplicate, Nat.reduceLeDiff, Nat.reduceLT, Int.reduceLT, Int.reduceLE, Int.reduceEq]) fun S hS => cwp_sound _ _ _ _ ?_; simp (disch := omega) only [s37, go_sem, Nat.reduceEqDiff, ↓reduceIte, reduceCtorEq, Nat.reduceAdd, Nat.reduceMul, Int.reduceToNat, List.reduceReplicate, Nat.reduceLeDiff, Nat.reduceLT, Int.reduceLT, Int.reduceLE, Int.reduceEq])
    repeat' (first | with_reducible refine inw ?_ | simp (disch := omega) only [go_sem, Nat.reduceEqDiff, ↓reduceIte, reduceCtorEq, Nat.reduceAdd, Nat.reduceMul, Int.reduceToNat, List.reduceReplicate, Nat.reduceLeDiff, Nat.reduceLT, Int.reduceLT, Int.reduceLE, Int.reduceEq] | (with_reducible apply call (c1)); (focus simp (disch := omega) only [go_sem, Nat.reduceEqDiff, ↓reduceIte, reduceCtorEq, Nat.reduceAdd, Nat.reduceMul, Int.reduceToNat, List.reduceReplicate, Nat.reduceLeDiff, Nat.reduceLT, Int.reduceLT, Int.reduceLE, Int.reduceEq] <;> rfl) | with_reducible refine giv_intro fun _h => ?_ | with_reducible refine alt_intro ?_ fun _h => ?_ | with_reducible refine pickD_nil ?_ | (with_reducible refine brc (fun _h => ?_) fun _h => ?_) <;> first | (exfalso; omega) | simp only [decide_eq_false _h] | simp only [(_h : (_ : Bool) = _)] | simp only [decide_eq_true _h] | skip)
def longK (h : Hook) : Bool := decide (16 < (max (max (h.1.length : Int) h.2.1.length) h.2.2.1.length))
def goodK (h : Hook) : Bool := setB h.1 && (setB h.2.1 && (setB h.2.2.1 && (decide (-1 ≤ h.2.2.2.1 ∧ h.2.2.2.1 ≤ 1 ∧ 1 ≤ h.2.2.2.2.1 ∧ h.2.2.2.2.1 ≤ 200) && nameB h.2.2.2.2.2)))
def formK (l : List Hook) : Int := if 24 < l.length ∨ l.any longK = true then 3 else if l.all goodK = true then 0 else 1
theorem valA_hook (h : Hook) : valA h = .agg [sl h.1, sl h.2.1, sl h.2.2.1, intA h.2.2.2.1, intA h.2.2.2.2.1, strA h.2.2.2.2.2] := by rw [valA_ne (by omega)]; rfl
/-- ablaut/depend.ValidateHooks$1: 1 parameters, 0 captured -/
def s67 : SC := .seq (.reg [o1 1 (.box 57 6 (.t 0)),
   o1 2 (.mv (cB false))])
  (.seq (.reg [o1 3 (.faddr 0 (.t 1)),
    o1 4 (.load none (.t 3)),
    o1 5 (.lenL (.t 4)),
    o1 6 (.faddr 1 (.t 1)),
    o1 7 (.load none (.t 6)),
    o1 8 (.lenL (.t 7)),
    o1 9 (.faddr 2 (.t 1)),
    o1 10 (.load none (.t 9)),
    o1 11 (.lenL (.t 10)),
    o1 12 (.max3 (.t 5) (.t 8) (.t 11)),
    o1 13 (.bin .gtr (.t 12) (cI 16)),
    o1 2 (.mv (.t 13))])
   (.ret))
theorem s67_ok : lookF Try.prog 67 = some (s67, 14, [.tmp 2]) := by kernel_rfl
theorem longK_ok (h : Hook) : Fn P 67 [valA h] (boolA (longK h)) := by
  rw [valA_hook]
  (refine fn_look s67_ok (by simp) (by intro k; simp only [go_sem, Nat.reduceEqDiff, ↓reduceIte, reduceCtorEq, Nat.reduceAdd, Nat.reduceMul, Int.reduceToNat, List.reduceReplicate, Nat.reduceLeDiff, Nat.reduceLT, Int.reduceLT, Int.reduceLE, Int.reduceEq]) fun S hS => cwp_sound _ _ _ _ ?_; simp (disch := omega) only [s67, go_sem, Nat.reduceEqDiff, ↓reduceIte, reduceCtorEq, Nat.reduceAdd, Nat.reduceMul, Int.reduceToNat, List.reduceReplicate, Nat.reduceLeDiff, Nat.reduceLT, Int.reduceLT, Int.reduceLE, Int.reduceEq])
  repeat' (first | with_reducible refine inw ?_ | simp (disch := omega) only [go_sem, Nat.reduceEqDiff, ↓reduceIte, reduceCtorEq, Nat.reduceAdd, Nat.reduceMul, Int.reduceToNat, List.reduceReplicate, Nat.reduceLeDiff, Nat.reduceLT, Int.reduceLT, Int.reduceLE, Int.reduceEq] | with_reducible refine giv_intro fun _h => ?_ | with_reducible refine alt_intro ?_ fun _h => ?_ | with_reducible refine pickD_nil ?_ | (with_reducible refine brc (fun _h => ?_) fun _h => ?_) <;> first | (exfalso; omega) | simp only [decide_eq_false _h] | simp only [(_h : (_ : Bool) = _)] | simp only [decide_eq_true _h] | skip)
  rfl
/-- ablaut/depend.ValidateHooks: 1 parameters, 0 captured -/
def s36 : SC := .seq (.reg [o1 2 (.mv (cI 0))])
  (.seq (.seq (.reg [o1 5 (.mv (.t 0)),
     o1 6 (.lenL (.t 5)),
     o1 7 (.bin .gtr (.t 6) (cI 24)),
     o1 8 (.mv (.t 7)),
     oF 9 (.mv (.t 0)) 8,
     oF 10 (.call (.f 66) [(.t 9), (.f 67)]) 8,
     o1 11 (.pick (.t 8) (cB true) (.t 10))])
    (.cond (.t 11) (.seq (.reg [o1 2 (.mv (cI 3))])
      (.ret)) (.skip)))
   (.seq (.seq (.reg [o1 12 (.mv (.t 0)),
      o1 13 (.lenL (.t 12)),
      o1 14 (.mv (cI 0))])
     (.block 0 (.loop (.seq (.reg [o1 15 (.bin .lss (.t 14) (.t 13))])
        (.seq (.cond (.t 15) (.skip) (.exit 0))
         (.seq (.block 1 (.seq (.reg [o1 16 (.iaddr 6 (.t 12) (.t 14)),
             o1 17 (.load (some 6) (.t 16)),
             o1 4 (.alloc 57 6 [(.slice none 0 0), (.slice none 0 0), (.slice none 0 0), (.int .i64 0), (.int .i64 0), (.string ⟨#[]⟩)]),
             o0 (.store 6 (.t 4) (.t 17))])
            (.seq (.reg [o1 18 (.faddr 0 (.t 4)),
              o1 19 (.load none (.t 18)),
              o1 20 (.call (.f 56) [(.t 19)]),
              o1 21 (.un .not (.t 20)),
              o1 22 (.mv (.t 21)),
              oF 23 (.faddr 1 (.t 4)) 22,
              oF 24 (.load none (.t 23)) 22,
              oF 25 (.call (.f 56) [(.t 24)]) 22,
              oF 26 (.un .not (.t 25)) 22,
              o1 27 (.pick (.t 22) (cB true) (.t 26)),
              o1 28 (.mv (.t 27)),
              oF 29 (.faddr 2 (.t 4)) 28,
              oF 30 (.load none (.t 29)) 28,
              oF 31 (.call (.f 56) [(.t 30)]) 28,
              oF 32 (.un .not (.t 31)) 28,
              o1 33 (.pick (.t 28) (cB true) (.t 32)),
              o1 34 (.mv (.t 33)),
              oF 35 (.faddr 3 (.t 4)) 34,
              oF 36 (.load none (.t 35)) 34,
              oF 37 (.bin .lss (.t 36) (cI (-1))) 34,
              o1 38 (.pick (.t 34) (cB true) (.t 37)),
              o1 39 (.mv (.t 38)),
              oF 40 (.faddr 3 (.t 4)) 39,
              oF 41 (.load none (.t 40)) 39,
              oF 42 (.bin .gtr (.t 41) (cI 1)) 39,
              o1 43 (.pick (.t 39) (cB true) (.t 42)),
              o1 44 (.mv (.t 43)),
              oF 45 (.faddr 4 (.t 4)) 44,
              oF 46 (.load none (.t 45)) 44,
              oF 47 (.bin .lss (.t 46) (cI 1)) 44,
              o1 48 (.pick (.t 44) (cB true) (.t 47)),
              o1 49 (.mv (.t 48)),
              oF 50 (.faddr 4 (.t 4)) 49,
              oF 51 (.load none (.t 50)) 49,
              oF 52 (.bin .gtr (.t 51) (cI 200)) 49,
              o1 53 (.pick (.t 49) (cB true) (.t 52)),
              o1 54 (.mv (.t 53)),
              oF 55 (.faddr 5 (.t 4)) 54,
              oF 56 (.load none (.t 55)) 54,
              oF 57 (.call (.f 68) [(.t 56)]) 54,
              oF 58 (.un .not (.t 57)) 54,
              o1 59 (.pick (.t 54) (cB true) (.t 58))])
             (.cond (.t 59) (.seq (.reg [o1 2 (.mv (cI 1))])
               (.ret)) (.skip)))))
          (.reg [o1 60 (.bin .add (.t 14) (cI 1)),
           o1 14 (.mv (.t 60))])))))))
    (.seq (.reg [o1 2 (.mv (cI 0))])
     (.ret))))
theorem s36_ok : lookF Try.prog 36 = some (s36, 61, [.tmp 2]) := by kernel_rfl
set_option maxHeartbeats 2000000 in
theorem vHooks_ok (l : List Hook) (hs : SmK l) : Fn P 36 [sl l] (intA (formK l)) := by
  have c1 := hokAny_ok l longK 67 [] (by simp) (fun h _ => longK_ok h)
  by_cases hL : 24 < l.length ∨ l.any longK = true
  · rw [formK, if_pos hL]
    by_cases hL2 : 24 < l.length
    · (refine fn_look s36_ok (by simp) (by intro k; simp only [go_sem, Nat.reduceEqDiff, ↓reduceIte, reduceCtorEq, Nat.reduceAdd, Nat.reduceMul, Int.reduceToNat, List.reduceReplicate, Nat.reduceLeDiff, Nat.reduceLT, Int.reduceLT, Int.reduceLE, Int.reduceEq]) fun S hS => cwp_sound _ _ _ _ ?_; simp (disch := omega) only [s36, go_sem, Nat.reduceEqDiff, ↓reduceIte, reduceCtorEq, Nat.reduceAdd, Nat.reduceMul, Int.reduceToNat, List.reduceReplicate, Nat.reduceLeDiff, Nat.reduceLT, Int.reduceLT, Int.reduceLE, Int.reduceEq])
      repeat' (first | with_reducible refine inw ?_ | simp (disch := omega) only [go_sem, Nat.reduceEqDiff, ↓reduceIte, reduceCtorEq, Nat.reduceAdd, Nat.reduceMul, Int.reduceToNat, List.reduceReplicate, Nat.reduceLeDiff, Nat.reduceLT, Int.reduceLT, Int.reduceLE, Int.reduceEq] | (with_reducible apply call (c1)); (focus simp (disch := omega) only [go_sem, Nat.reduceEqDiff, ↓reduceIte, reduceCtorEq, Nat.reduceAdd, Nat.reduceMul, Int.reduceToNat, List.reduceReplicate, Nat.reduceLeDiff, Nat.reduceLT, Int.reduceLT, Int.reduceLE, Int.reduceEq] <;> rfl) | with_reducible refine giv_intro fun _h => ?_ | with_reducible refine alt_intro ?_ fun _h => ?_ | with_reducible refine pickD_nil ?_ | (with_reducible refine brc (fun _h => ?_) fun _h => ?_) <;> first | (exfalso; omega) | simp only [decide_eq_false _h] | simp only [(_h : (_ : Bool) = _)] | simp only [decide_eq_true _h] | skip)
    · have hL3 := hL.resolve_left hL2
      rw [hL3] at c1
      (refine fn_look s36_ok (by simp) (by intro k; simp only [go_sem, Nat.reduceEqDiff, ↓reduceIte, reduceCtorEq, Nat.reduceAdd, Nat.reduceMul, Int.reduceToNat, List.reduceReplicate, Nat.reduceLeDiff, Nat.reduceLT, Int.reduceLT, Int.reduceLE, Int.reduceEq]) fun S hS => cwp_sound _ _ _ _ ?_; simp (disch := omega) only [s36, go_sem, Nat.reduceEqDiff, ↓reduceIte, reduceCtorEq, Nat.reduceAdd, Nat.reduceMul, Int.reduceToNat, List.reduceReplicate, Nat.reduceLeDiff, Nat.reduceLT, Int.reduceLT, Int.reduceLE, Int.reduceEq])
      repeat' (first | with_reducible refine inw ?_ | simp (disch := omega) only [go_sem, Nat.reduceEqDiff, ↓reduceIte, reduceCtorEq, Nat.reduceAdd, Nat.reduceMul, Int.reduceToNat, List.reduceReplicate, Nat.reduceLeDiff, Nat.reduceLT, Int.reduceLT, Int.reduceLE, Int.reduceEq] | (with_reducible apply call (c1)); (focus simp (disch := omega) only [go_sem, Nat.reduceEqDiff, ↓reduceIte, reduceCtorEq, Nat.reduceAdd, Nat.reduceMul, Int.reduceToNat, List.reduceReplicate, Nat.reduceLeDiff, Nat.reduceLT, Int.reduceLT, Int.reduceLE, Int.reduceEq] <;> rfl) | with_reducible refine giv_intro fun _h => ?_ | with_reducible refine alt_intro ?_ fun _h => ?_ | with_reducible refine pickD_nil ?_ | (with_reducible refine brc (fun _h => ?_) fun _h => ?_) <;> first | (exfalso; omega) | simp only [decide_eq_false _h] | simp only [(_h : (_ : Bool) = _)] | simp only [decide_eq_true _h] | skip)
  · rw [formK, if_neg hL]
    have hL2 : ¬24 < l.length := fun h => hL (.inl h)
    have hL3 : l.any longK = false := by rw [← Bool.not_eq_true]; exact fun h => hL (.inr h)
    rw [hL3] at c1
    (refine fn_look s36_ok (by simp) (by intro k; simp only [go_sem, Nat.reduceEqDiff, ↓reduceIte, reduceCtorEq, Nat.reduceAdd, Nat.reduceMul, Int.reduceToNat, List.reduceReplicate, Nat.reduceLeDiff, Nat.reduceLT, Int.reduceLT, Int.reduceLE, Int.reduceEq]) fun S hS => cwp_sound _ _ _ _ ?_; simp (disch := omega) only [s36, go_sem, Nat.reduceEqDiff, ↓reduceIte, reduceCtorEq, Nat.reduceAdd, Nat.reduceMul, Int.reduceToNat, List.reduceReplicate, Nat.reduceLeDiff, Nat.reduceLT, Int.reduceLT, Int.reduceLE, Int.reduceEq])
    repeat' (first | with_reducible refine inw ?_ | simp (disch := omega) only [go_sem, Nat.reduceEqDiff, ↓reduceIte, reduceCtorEq, Nat.reduceAdd, Nat.reduceMul, Int.reduceToNat, List.reduceReplicate, Nat.reduceLeDiff, Nat.reduceLT, Int.reduceLT, Int.reduceLE, Int.reduceEq] | (with_reducible apply call (c1)); (focus simp (disch := omega) only [go_sem, Nat.reduceEqDiff, ↓reduceIte, reduceCtorEq, Nat.reduceAdd, Nat.reduceMul, Int.reduceToNat, List.reduceReplicate, Nat.reduceLeDiff, Nat.reduceLT, Int.reduceLT, Int.reduceLE, Int.reduceEq] <;> rfl) | with_reducible refine giv_intro fun _h => ?_ | with_reducible refine alt_intro ?_ fun _h => ?_ | with_reducible refine pickD_nil ?_ | (with_reducible refine brc (fun _h => ?_) fun _h => ?_) <;> first | (exfalso; omega) | simp only [decide_eq_false _h] | simp only [(_h : (_ : Bool) = _)] | simp only [decide_eq_true _h] | skip)
    (refine loopC hS [12, 13] (by simp only [go_sem, Nat.reduceEqDiff, ↓reduceIte, reduceCtorEq, Nat.reduceAdd, Nat.reduceMul, Int.reduceToNat, List.reduceReplicate, Nat.reduceLeDiff, Nat.reduceLT, Int.reduceLT, Int.reduceLE, Int.reduceEq]; try rfl) (fun (i : Nat) => [(14, intA i)]) (fun (i : Nat) => []) (fun (i : Nat) => i ≤ l.length ∧ l.all goodK = (l.drop i).all goodK) (fun (i : Nat) => l.length - i) (0) ?h09 ?hn9 ?rd9; case hn9 => (intro s; first | rfl | (rcases s with ⟨_, _⟩; rfl) | (rcases s with ⟨_, _, _⟩; rfl) | (rcases s with ⟨_, _, _, _⟩; rfl) | (rcases s with ⟨_, _, _, _, _⟩; rfl)))
    · simp (disch := omega) only [go_sem, Nat.reduceEqDiff, ↓reduceIte, reduceCtorEq, Nat.reduceAdd, Nat.reduceMul, Int.reduceToNat, List.reduceReplicate, Nat.reduceLeDiff, Nat.reduceLT, Int.reduceLT, Int.reduceLE, Int.reduceEq]; simp
    rintro i ⟨hi, hI⟩
    replace hi : i ≤ l.length := hi
    replace hI : l.all goodK = (l.drop i).all goodK := hI
    by_cases hil : i < l.length
    · have hst := all_step hil hI
      obtain ⟨hz1, hz2, hz3, hz4⟩ := hs.2 _ (nth_mem hil)
      have c2 := isName_ok (nth l i).2.2.2.2.2 (by omega)
      have c3 := isSet_ok (nth l i).1 hz1.sizes
      have c4 := isSet_ok (nth l i).2.1 hz2.sizes
      have c5 := isSet_ok (nth l i).2.2.1 hz3.sizes
      have hg : goodK (nth l i) = (setB (nth l i).1 && (setB (nth l i).2.1 && (setB (nth l i).2.2.1 && (decide (-1 ≤ (nth l i).2.2.2.1 ∧ (nth l i).2.2.2.1 ≤ 1 ∧ 1 ≤ (nth l i).2.2.2.2.1 ∧ (nth l i).2.2.2.2.1 ≤ 200) && nameB (nth l i).2.2.2.2.2)))) := rfl
      have bad : goodK (nth l i) = false → (1 : Int) = if l.all goodK = true then 0 else 1 := fun h => by rw [hst, h]; rfl
      have good : goodK (nth l i) = true → l.all goodK = (l.drop (i + 1)).all goodK := fun h => by rw [hst, h, Bool.true_and]
      repeat' (first | with_reducible refine inw ?_ | simp (disch := omega) only [go_sem, Nat.reduceEqDiff, ↓reduceIte, reduceCtorEq, Nat.reduceAdd, Nat.reduceMul, Int.reduceToNat, List.reduceReplicate, Nat.reduceLeDiff, Nat.reduceLT, Int.reduceLT, Int.reduceLE, Int.reduceEq] | (with_reducible apply call (c2)); (focus simp (disch := omega) only [go_sem, Nat.reduceEqDiff, ↓reduceIte, reduceCtorEq, Nat.reduceAdd, Nat.reduceMul, Int.reduceToNat, List.reduceReplicate, Nat.reduceLeDiff, Nat.reduceLT, Int.reduceLT, Int.reduceLE, Int.reduceEq] <;> rfl) | (with_reducible apply call (c3)); (focus simp (disch := omega) only [go_sem, Nat.reduceEqDiff, ↓reduceIte, reduceCtorEq, Nat.reduceAdd, Nat.reduceMul, Int.reduceToNat, List.reduceReplicate, Nat.reduceLeDiff, Nat.reduceLT, Int.reduceLT, Int.reduceLE, Int.reduceEq] <;> rfl) | (with_reducible apply call (c4)); (focus simp (disch := omega) only [go_sem, Nat.reduceEqDiff, ↓reduceIte, reduceCtorEq, Nat.reduceAdd, Nat.reduceMul, Int.reduceToNat, List.reduceReplicate, Nat.reduceLeDiff, Nat.reduceLT, Int.reduceLT, Int.reduceLE, Int.reduceEq] <;> rfl) | (with_reducible apply call (c5)); (focus simp (disch := omega) only [go_sem, Nat.reduceEqDiff, ↓reduceIte, reduceCtorEq, Nat.reduceAdd, Nat.reduceMul, Int.reduceToNat, List.reduceReplicate, Nat.reduceLeDiff, Nat.reduceLT, Int.reduceLT, Int.reduceLE, Int.reduceEq] <;> rfl) | with_reducible refine giv_intro fun _h => ?_ | with_reducible refine alt_intro ?_ fun _h => ?_ | with_reducible refine pickD_nil ?_ | (with_reducible refine brc (fun _h => ?_) fun _h => ?_) <;> first | (exfalso; omega) | simp only [decide_eq_false _h] | simp only [(_h : (_ : Bool) = _)] | simp only [decide_eq_true _h] | skip)
      all_goals first
        | exact bad (by rw [hg, ← Bool.not_eq_true]; simp only [Bool.and_eq_true, decide_eq_true_eq]; rintro ⟨q1, q2, q3, q4, q5⟩; first | omega | (rw [q1] at _h; cases _h) | (rw [q2] at _h; cases _h) | (rw [q3] at _h; cases _h) | (rw [q5] at _h; cases _h))
        | exact ⟨i + 1, ⟨by omega, by omega, good (by rw [hg]; simp only [Bool.and_eq_true, decide_eq_true_eq]; exact ⟨by assumption, by assumption, by assumption, by omega, by assumption⟩)⟩, by omega⟩
    · rw [List.drop_eq_nil_of_le (by omega)] at hI
      rw [hI]
      repeat' (first | with_reducible refine inw ?_ | simp (disch := omega) only [go_sem, Nat.reduceEqDiff, ↓reduceIte, reduceCtorEq, Nat.reduceAdd, Nat.reduceMul, Int.reduceToNat, List.reduceReplicate, Nat.reduceLeDiff, Nat.reduceLT, Int.reduceLT, Int.reduceLE, Int.reduceEq] | with_reducible refine giv_intro fun _h => ?_ | with_reducible refine alt_intro ?_ fun _h => ?_ | with_reducible refine pickD_nil ?_ | (with_reducible refine brc (fun _h => ?_) fun _h => ?_) <;> first | (exfalso; omega) | simp only [decide_eq_false _h] | simp only [(_h : (_ : Bool) = _)] | simp only [decide_eq_true _h] | skip)
end Go.Proofs.Ytkedbkdbnmmkhaa.Ev

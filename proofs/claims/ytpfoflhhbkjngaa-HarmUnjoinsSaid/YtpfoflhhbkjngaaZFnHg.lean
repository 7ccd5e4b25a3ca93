/- Joints: which there are, and what they make of two words. -/
import Derived.Test.YtpfoflhhbkjngaaZFnHc
import Derived.Test.YtpfoflhhbkjngaaZFnW
set_option linter.unusedVariables false
set_option linter.unusedSimpArgs false
namespace Go.Proofs.Ytpfoflhhbkjngaa.Ev
open Go Go.Proofs

/-! ### how much there is in words: a number -/
def bytesI : List Str → Int → Int
  | [], n => n
  | s :: l, n => if n ≤ 32000 then bytesI l (IntKind.i64.wrap (n + s.size)) else n
def bytesO : List (List Str) → Int → Int
  | [], n => n
  | w :: ws, n => bytesO ws (bytesI w (IntKind.i64.wrap (n + IntKind.i64.wrap (1 + w.length))))
theorem bytesI_stop (l : List Str) {n : Int} (h : ¬ n ≤ 32000) : bytesI l n = n := by cases l <;> simp [bytesI, h]
theorem bytesF_ok (l : List (List Str)) : Fn P 16 [sl l] (intA (bytesO l 0)) := by
  (refine fn_look s16_ok (by simp) (by intro k; simp only [go_sem, Nat.reduceEqDiff, ↓reduceIte, reduceCtorEq, Nat.reduceAdd, Nat.reduceMul, Int.reduceToNat, List.reduceReplicate, Nat.reduceLeDiff, Nat.reduceLT, Int.reduceLT, Int.reduceLE, Int.reduceEq]) fun S hS => cwp_sound _ _ _ _ ?_; simp (maxSteps := 900000) (disch := omega) only [s16, go_sem, Nat.reduceEqDiff, ↓reduceIte, reduceCtorEq, Nat.reduceAdd, Nat.reduceMul, Int.reduceToNat, List.reduceReplicate, Nat.reduceLeDiff, Nat.reduceLT, Int.reduceLT, Int.reduceLE, Int.reduceEq])
  (refine loopC hS [0] (by simp only [go_sem, Nat.reduceEqDiff, ↓reduceIte, reduceCtorEq, Nat.reduceAdd, Nat.reduceMul, Int.reduceToNat, List.reduceReplicate, Nat.reduceLeDiff, Nat.reduceLT, Int.reduceLT, Int.reduceLE, Int.reduceEq]; try rfl) (fun (⟨i, n⟩ : Nat × Int) => [(3, intA n), (4, intA i)]) (fun (⟨i, n⟩ : Nat × Int) => []) (fun (⟨i, n⟩ : Nat × Int) => i ≤ l.length ∧ bytesO l 0 = bytesO (l.drop i) n) (fun (⟨i, n⟩ : Nat × Int) => l.length - i) ((0, 0)) ?_ (by intro s; first | (simp only [List.length_cons, List.length_nil]; done) | rfl | (rcases s with ⟨_, _⟩; rfl) | (rcases s with ⟨_, _, _⟩; rfl) | (rcases s with ⟨_, _, _, _⟩; rfl) | (rcases s with ⟨_, _, _, _, _⟩; rfl)) ?_)
  · simp (maxSteps := 900000) (disch := omega) only [go_sem, Nat.reduceEqDiff, ↓reduceIte, reduceCtorEq, Nat.reduceAdd, Nat.reduceMul, Int.reduceToNat, List.reduceReplicate, Nat.reduceLeDiff, Nat.reduceLT, Int.reduceLT, Int.reduceLE, Int.reduceEq]; simp
  rintro ⟨i, n⟩ ⟨hi, hI⟩
  replace hi : i ≤ l.length := hi
  replace hI : bytesO l 0 = bytesO (l.drop i) n := hI
  by_cases hil : i < l.length
  · rw [nth_drop hil, bytesO] at hI
    repeat' (first | with_reducible refine inw ?_ | simp (maxSteps := 900000) (disch := omega) only [go_sem, Nat.reduceEqDiff, ↓reduceIte, reduceCtorEq, Nat.reduceAdd, Nat.reduceMul, Int.reduceToNat, List.reduceReplicate, Nat.reduceLeDiff, Nat.reduceLT, Int.reduceLT, Int.reduceLE, Int.reduceEq] | with_reducible refine pickB_f ?_ | with_reducible refine giv_intro fun _h => ?_ | with_reducible refine alt_intro ?_ fun _h => ?_ | with_reducible refine pickD_nil ?_ | (with_reducible refine brc (fun _h => ?_) fun _h => ?_) <;> first | (exfalso; omega) | simp only [decide_eq_false _h] | simp only [(_h : (_ : Bool) = _)] | simp only [decide_eq_true _h] | skip)
    (refine loopC hS [0, 4] (by simp only [go_sem, Nat.reduceEqDiff, ↓reduceIte, reduceCtorEq, Nat.reduceAdd, Nat.reduceMul, Int.reduceToNat, List.reduceReplicate, Nat.reduceLeDiff, Nat.reduceLT, Int.reduceLT, Int.reduceLE, Int.reduceEq]; try rfl) (fun (⟨k, n⟩ : Nat × Int) => [(3, intA n), (5, intA k)]) (fun (⟨k, n⟩ : Nat × Int) => []) (fun (⟨k, n⟩ : Nat × Int) => k ≤ (nth l i).length ∧ bytesO l 0 = bytesO (l.drop (i + 1)) (bytesI ((nth l i).drop k) n)) (fun (⟨k, n⟩ : Nat × Int) => (nth l i).length - k) ((0, IntKind.i64.wrap (n + IntKind.i64.wrap (1 + (nth l i).length)))) ?_ (by intro s; first | (simp only [List.length_cons, List.length_nil]; done) | rfl | (rcases s with ⟨_, _⟩; rfl) | (rcases s with ⟨_, _, _⟩; rfl) | (rcases s with ⟨_, _, _, _⟩; rfl) | (rcases s with ⟨_, _, _, _, _⟩; rfl)) ?_)
    · simp (maxSteps := 900000) (disch := omega) only [go_sem, Nat.reduceEqDiff, ↓reduceIte, reduceCtorEq, Nat.reduceAdd, Nat.reduceMul, Int.reduceToNat, List.reduceReplicate, Nat.reduceLeDiff, Nat.reduceLT, Int.reduceLT, Int.reduceLE, Int.reduceEq]; exact ⟨Nat.zero_le _, hI⟩
    rintro ⟨k, n⟩ ⟨hk, hK⟩
    replace hk : k ≤ (nth l i).length := hk
    replace hK : bytesO l 0 = bytesO (l.drop (i + 1)) (bytesI ((nth l i).drop k) n) := hK
    by_cases hkl : k < (nth l i).length
    · by_cases hn : n ≤ 32000
      · rw [nth_drop hkl, bytesI, if_pos hn] at hK
        repeat' (first | with_reducible refine inw ?_ | simp (maxSteps := 900000) (disch := omega) only [go_sem, Nat.reduceEqDiff, ↓reduceIte, reduceCtorEq, Nat.reduceAdd, Nat.reduceMul, Int.reduceToNat, List.reduceReplicate, Nat.reduceLeDiff, Nat.reduceLT, Int.reduceLT, Int.reduceLE, Int.reduceEq] | with_reducible refine pickB_f ?_ | with_reducible refine giv_intro fun _h => ?_ | with_reducible refine alt_intro ?_ fun _h => ?_ | with_reducible refine pickD_nil ?_ | (with_reducible refine brc (fun _h => ?_) fun _h => ?_) <;> first | (exfalso; omega) | simp only [decide_eq_false _h] | simp only [(_h : (_ : Bool) = _)] | simp only [decide_eq_true _h] | skip)
        exact ⟨(k + 1, _), ⟨by omega, by omega, hK⟩, rfl, by omega⟩
      · rw [bytesI_stop _ hn] at hK
        repeat' (first | with_reducible refine inw ?_ | simp (maxSteps := 900000) (disch := omega) only [go_sem, Nat.reduceEqDiff, ↓reduceIte, reduceCtorEq, Nat.reduceAdd, Nat.reduceMul, Int.reduceToNat, List.reduceReplicate, Nat.reduceLeDiff, Nat.reduceLT, Int.reduceLT, Int.reduceLE, Int.reduceEq] | with_reducible refine pickB_f ?_ | with_reducible refine giv_intro fun _h => ?_ | with_reducible refine alt_intro ?_ fun _h => ?_ | with_reducible refine pickD_nil ?_ | (with_reducible refine brc (fun _h => ?_) fun _h => ?_) <;> first | (exfalso; omega) | simp only [decide_eq_false _h] | simp only [(_h : (_ : Bool) = _)] | simp only [decide_eq_true _h] | skip)
        exact ⟨(i + 1, _), ⟨by omega, by omega, hK⟩, rfl, by omega⟩
    · rw [drop_end (l := nth l i) (by omega), bytesI] at hK
      repeat' (first | with_reducible refine inw ?_ | simp (maxSteps := 900000) (disch := omega) only [go_sem, Nat.reduceEqDiff, ↓reduceIte, reduceCtorEq, Nat.reduceAdd, Nat.reduceMul, Int.reduceToNat, List.reduceReplicate, Nat.reduceLeDiff, Nat.reduceLT, Int.reduceLT, Int.reduceLE, Int.reduceEq] | with_reducible refine pickB_f ?_ | with_reducible refine giv_intro fun _h => ?_ | with_reducible refine alt_intro ?_ fun _h => ?_ | with_reducible refine pickD_nil ?_ | (with_reducible refine brc (fun _h => ?_) fun _h => ?_) <;> first | (exfalso; omega) | simp only [decide_eq_false _h] | simp only [(_h : (_ : Bool) = _)] | simp only [decide_eq_true _h] | skip)
      exact ⟨(i + 1, _), ⟨by omega, by omega, hK⟩, rfl, by omega⟩
  · rw [drop_end (l := l) (by omega), bytesO] at hI
    repeat' (first | with_reducible refine inw ?_ | simp (maxSteps := 900000) (disch := omega) only [go_sem, Nat.reduceEqDiff, ↓reduceIte, reduceCtorEq, Nat.reduceAdd, Nat.reduceMul, Int.reduceToNat, List.reduceReplicate, Nat.reduceLeDiff, Nat.reduceLT, Int.reduceLT, Int.reduceLE, Int.reduceEq] | with_reducible refine pickB_f ?_ | with_reducible refine giv_intro fun _h => ?_ | with_reducible refine alt_intro ?_ fun _h => ?_ | with_reducible refine pickD_nil ?_ | (with_reducible refine brc (fun _h => ?_) fun _h => ?_) <;> first | (exfalso; omega) | simp only [decide_eq_false _h] | simp only [(_h : (_ : Bool) = _)] | simp only [decide_eq_true _h] | skip)
    rw [hI]

abbrev Joint := List Str × List Str × List Str
def jW (j : Joint) : Int := wordsErr [j.1, j.2.1, j.2.2]
def jntW : List Joint → Int
  | [] => 0
  | j :: l => if jW j ≠ 0 then jW j else jntW l
def wtJ (j : Joint) : Nat := j.1.length + j.2.1.length
def jntErr (l : List Joint) : Int := if 24 < l.length then 3 else if jntW l ≠ 0 then jntW l else if l.any (fun j => decide (wtJ j = 0)) = true then 1 else 0
theorem jntErr_3 {l : List Joint} (h : 24 < l.length) : jntErr l = 3 := by rw [jntErr, if_pos h]
theorem jntErr_w {l : List Joint} (h : ¬ 24 < l.length) (h2 : jntW l ≠ 0) : jntErr l = jntW l := by rw [jntErr, if_neg h, if_pos h2]
theorem jntErr_1 {l : List Joint} (h : ¬ 24 < l.length) (h2 : jntW l = 0) (h3 : l.any (fun j => decide (wtJ j = 0)) = true) : jntErr l = 1 := by rw [jntErr, if_neg h, if_neg (by omega), if_pos h3]
theorem jntErr_0 {l : List Joint} (h : ¬ 24 < l.length) (h2 : jntW l = 0) (h3 : l.any (fun j => decide (wtJ j = 0)) = false) : jntErr l = 0 := by rw [jntErr, if_neg h, if_neg (by omega), if_neg (by rw [h3]; simp)]
/-- slices.IndexFunc[[]ablaut/api.Joint,ablaut/api.Joint]: 2 parameters, 0 captured -/
def s141 : SC := .seq (.reg [o1 4 (.mv (cI 0))])
  (.seq (.seq (.reg [o1 6 (.mv (.t 0)),
     o1 7 (.lenL (.t 6)),
     o1 8 (.mv (cI 0))])
    (.block 0 (.loop (.seq (.reg [o1 9 (.bin .lss (.t 8) (.t 7))])
       (.seq (.cond (.t 9) (.skip) (.exit 0))
        (.seq (.block 1 (.seq (.reg [o1 10 (.mv (.t 8)),
            o1 5 (.mv (.t 10))])
           (.seq (.reg [o1 11 (.mv (.t 1)),
             o1 12 (.mv (.t 0)),
             o1 13 (.mv (.t 5)),
             o1 14 (.iaddr 3 (.t 12) (.t 13)),
             o1 15 (.load (some 3) (.t 14)),
             o1 16 (.call (.t 11) [(.t 15)])])
            (.cond (.t 16) (.seq (.reg [o1 17 (.mv (.t 5)),
               o1 4 (.mv (.t 17))])
              (.ret)) (.skip)))))
         (.reg [o1 18 (.bin .add (.t 8) (cI 1)),
          o1 8 (.mv (.t 18))])))))))
   (.seq (.reg [o1 4 (.mv (cI (-1)))])
    (.ret)))
theorem s141_ok : lookF Try.prog 141 = some (s141, 19, [.tmp 4]) := by kernel_rfl
theorem jntIdx_ok (l : List Joint) (p : Joint → Bool) (g : FuncId) (caps : List AV) (hc : ∀ c ∈ caps, AV.Still c) (hp : ∀ x, x ∈ l → Fn P g (valA x :: caps) (boolA (p x))) :
    Fn P 141 [sl l, .clo g caps] (intA (match l.findIdx? p with | some i => (i : Int) | none => -1)) := by
  have h1 := caps_seen hc
  have h2 := caps_bel hc
  (refine fn_look s141_ok (by simp) (by intro k; simp only [go_sem, Nat.reduceEqDiff, ↓reduceIte, reduceCtorEq, Nat.reduceAdd, Nat.reduceMul, Int.reduceToNat, List.reduceReplicate, Nat.reduceLeDiff, Nat.reduceLT, Int.reduceLT, Int.reduceLE, Int.reduceEq]) fun S hS => cwp_sound _ _ _ _ ?_; simp (maxSteps := 900000) (disch := omega) only [s141, go_sem, Nat.reduceEqDiff, ↓reduceIte, reduceCtorEq, Nat.reduceAdd, Nat.reduceMul, Int.reduceToNat, List.reduceReplicate, Nat.reduceLeDiff, Nat.reduceLT, Int.reduceLT, Int.reduceLE, Int.reduceEq])
  repeat' (first | with_reducible refine inw ?_ | simp (maxSteps := 900000) (disch := omega) only [go_sem, Nat.reduceEqDiff, ↓reduceIte, reduceCtorEq, Nat.reduceAdd, Nat.reduceMul, Int.reduceToNat, List.reduceReplicate, Nat.reduceLeDiff, Nat.reduceLT, Int.reduceLT, Int.reduceLE, Int.reduceEq, h1, h2] | with_reducible refine pickB_f ?_ | with_reducible refine giv_intro fun _h => ?_ | with_reducible refine alt_intro ?_ fun _h => ?_ | with_reducible refine pickD_nil ?_ | (with_reducible refine brc (fun _h => ?_) fun _h => ?_) <;> first | (exfalso; omega) | simp only [decide_eq_false _h] | simp only [(_h : (_ : Bool) = _)] | simp only [decide_eq_true _h] | skip)
  (refine loopC hS [0, 1, 7] (by simp only [go_sem, Nat.reduceEqDiff, ↓reduceIte, reduceCtorEq, Nat.reduceAdd, Nat.reduceMul, Int.reduceToNat, List.reduceReplicate, Nat.reduceLeDiff, Nat.reduceLT, Int.reduceLT, Int.reduceLE, Int.reduceEq]; try rfl) (fun (i : Nat) => [(8, intA i)]) (fun (i : Nat) => []) (fun (i : Nat) => i ≤ l.length ∧ l.findIdx? p = ((l.drop i).findIdx? p).map (· + i)) (fun (i : Nat) => l.length - i) (0) ?_ (by intro s; first | (simp only [List.length_cons, List.length_nil]; done) | rfl | (rcases s with ⟨_, _⟩; rfl) | (rcases s with ⟨_, _, _⟩; rfl) | (rcases s with ⟨_, _, _, _⟩; rfl) | (rcases s with ⟨_, _, _, _, _⟩; rfl)) ?_)
  · simp (maxSteps := 900000) (disch := omega) only [go_sem, Nat.reduceEqDiff, ↓reduceIte, reduceCtorEq, Nat.reduceAdd, Nat.reduceMul, Int.reduceToNat, List.reduceReplicate, Nat.reduceLeDiff, Nat.reduceLT, Int.reduceLT, Int.reduceLE, Int.reduceEq]; simp
  rintro i ⟨hi, hI⟩
  replace hi : i ≤ l.length := hi
  replace hI : l.findIdx? p = ((l.drop i).findIdx? p).map (· + i) := hI
  repeat' (first | with_reducible refine inw ?_ | simp (maxSteps := 900000) (disch := omega) only [go_sem, Nat.reduceEqDiff, ↓reduceIte, reduceCtorEq, Nat.reduceAdd, Nat.reduceMul, Int.reduceToNat, List.reduceReplicate, Nat.reduceLeDiff, Nat.reduceLT, Int.reduceLT, Int.reduceLE, Int.reduceEq, h1, h2] | (with_reducible apply call (hp _ (nth_mem (by assumption)))); (focus simp (maxSteps := 900000) (disch := omega) only [go_sem, Nat.reduceEqDiff, ↓reduceIte, reduceCtorEq, Nat.reduceAdd, Nat.reduceMul, Int.reduceToNat, List.reduceReplicate, Nat.reduceLeDiff, Nat.reduceLT, Int.reduceLT, Int.reduceLE, Int.reduceEq, h1, h2] <;> rfl) | with_reducible refine pickB_f ?_ | with_reducible refine giv_intro fun _h => ?_ | with_reducible refine alt_intro ?_ fun _h => ?_ | with_reducible refine pickD_nil ?_ | (with_reducible refine brc (fun _h => ?_) fun _h => ?_) <;> first | (exfalso; omega) | simp only [decide_eq_false _h] | simp only [(_h : (_ : Bool) = _)] | simp only [decide_eq_true _h] | skip)
  · rw [hI, nth_drop (by assumption)]
    simp_all [List.findIdx?_cons]
  · refine ⟨i + 1, ⟨by omega, by omega, ?_⟩, by omega⟩
    rw [hI, nth_drop (by assumption), List.findIdx?_cons]
    simp_all [Function.comp_def, Nat.add_comm, Nat.add_left_comm]
  · rw [hI, List.drop_eq_nil_of_le (by omega)]; rfl
/-- slices.ContainsFunc[[]ablaut/api.Joint,ablaut/api.Joint]: 2 parameters, 0 captured -/
def s113 : SC := .seq (.reg [o1 4 (.mv (cB false))])
  (.seq (.reg [o1 5 (.mv (.t 0)),
    o1 6 (.mv (.t 1)),
    o1 7 (.call (.f 141) [(.t 5), (.t 6)]),
    o1 8 (.bin .geq (.t 7) (cI 0)),
    o1 4 (.mv (.t 8))])
   (.ret))
theorem s113_ok : lookF Try.prog 113 = some (s113, 9, [.tmp 4]) := by kernel_rfl
theorem jntAny_ok (l : List Joint) (p : Joint → Bool) (g : FuncId) (caps : List AV) (hc : ∀ c ∈ caps, AV.Still c) (hp : ∀ x, x ∈ l → Fn P g (valA x :: caps) (boolA (p x))) :
    Fn P 113 [sl l, .clo g caps] (boolA (l.any p)) := by
  have h1 := caps_seen hc
  have h2 := caps_bel hc
  (refine fn_look s113_ok (by simp) (by intro k; simp only [go_sem, Nat.reduceEqDiff, ↓reduceIte, reduceCtorEq, Nat.reduceAdd, Nat.reduceMul, Int.reduceToNat, List.reduceReplicate, Nat.reduceLeDiff, Nat.reduceLT, Int.reduceLT, Int.reduceLE, Int.reduceEq]) fun S hS => cwp_sound _ _ _ _ ?_; simp (maxSteps := 900000) (disch := omega) only [s113, go_sem, Nat.reduceEqDiff, ↓reduceIte, reduceCtorEq, Nat.reduceAdd, Nat.reduceMul, Int.reduceToNat, List.reduceReplicate, Nat.reduceLeDiff, Nat.reduceLT, Int.reduceLT, Int.reduceLE, Int.reduceEq])
  repeat' (first | with_reducible refine inw ?_ | simp (maxSteps := 900000) (disch := omega) only [go_sem, Nat.reduceEqDiff, ↓reduceIte, reduceCtorEq, Nat.reduceAdd, Nat.reduceMul, Int.reduceToNat, List.reduceReplicate, Nat.reduceLeDiff, Nat.reduceLT, Int.reduceLT, Int.reduceLE, Int.reduceEq, h1, h2] | (with_reducible apply call (jntIdx_ok l p g caps hc hp)); (focus simp (maxSteps := 900000) (disch := omega) only [go_sem, Nat.reduceEqDiff, ↓reduceIte, reduceCtorEq, Nat.reduceAdd, Nat.reduceMul, Int.reduceToNat, List.reduceReplicate, Nat.reduceLeDiff, Nat.reduceLT, Int.reduceLT, Int.reduceLE, Int.reduceEq, h1, h2] <;> rfl) | with_reducible refine pickB_f ?_ | with_reducible refine giv_intro fun _h => ?_ | with_reducible refine alt_intro ?_ fun _h => ?_ | with_reducible refine pickD_nil ?_ | (with_reducible refine brc (fun _h => ?_) fun _h => ?_) <;> first | (exfalso; omega) | simp only [decide_eq_false _h] | simp only [(_h : (_ : Bool) = _)] | simp only [decide_eq_true _h] | skip)
  exact findIdx_anyG
theorem words_len {a b c : List Str} (h : wordsErr [a, b, c] = 0) : a.length ≤ 60 ∧ b.length ≤ 60 ∧ c.length ≤ 60 := by
  simp only [wordsErr] at h
  split at h
  · rename_i h1; exact absurd h h1
  · split at h
    · rename_i h1; exact absurd h h1
    · split at h
      · rename_i h1; exact absurd h h1
      · rename_i h1 h2 h3
        exact ⟨wordErr_len (by omega), wordErr_len (by omega), wordErr_len (by omega)⟩
theorem jntW_mem : ∀ {l : List Joint}, jntW l = 0 → ∀ j ∈ l, jW j = 0
  | [], _, j, hj => by simp at hj
  | q :: l, h, j, hj => by
    simp only [jntW] at h
    split at h
    · rename_i h1; exact absurd h h1
    · rename_i h1
      rcases List.mem_cons.1 hj with rfl | hj
      · omega
      · exact jntW_mem h j hj
theorem jnt_len {l : List Joint} (h : jntW l = 0) {j : Joint} (hj : j ∈ l) : j.1.length ≤ 60 ∧ j.2.1.length ≤ 60 ∧ j.2.2.length ≤ 60 := words_len (jntW_mem h j hj)
/-- ablaut/harm.joints$1: 1 parameters, 0 captured -/
def s114 : SC := .seq (.reg [o1 1 (.box 83 3 (.t 0)),
   o1 2 (.mv (cB false))])
  (.seq (.reg [o1 3 (.faddr 0 (.t 1)),
    o1 4 (.load none (.t 3)),
    o1 5 (.lenL (.t 4)),
    o1 6 (.faddr 1 (.t 1)),
    o1 7 (.load none (.t 6)),
    o1 8 (.lenL (.t 7)),
    o1 9 (.bin .add (.t 5) (.t 8)),
    o1 10 (.bin .eql (.t 9) (cI 0)),
    o1 2 (.mv (.t 10))])
   (.ret))
theorem s114_ok : lookF Try.prog 114 = some (s114, 11, [.tmp 2]) := by kernel_rfl
theorem jntZero_ok (j : Joint) (h : j.1.length ≤ 60 ∧ j.2.1.length ≤ 60) : Fn P 114 [valA j] (boolA (decide (wtJ j = 0))) := by
  (refine fn_look s114_ok (by simp) (by intro k; simp only [go_sem, Nat.reduceEqDiff, ↓reduceIte, reduceCtorEq, Nat.reduceAdd, Nat.reduceMul, Int.reduceToNat, List.reduceReplicate, Nat.reduceLeDiff, Nat.reduceLT, Int.reduceLT, Int.reduceLE, Int.reduceEq]) fun S hS => cwp_sound _ _ _ _ ?_; simp (maxSteps := 900000) (disch := omega) only [s114, go_sem, Nat.reduceEqDiff, ↓reduceIte, reduceCtorEq, Nat.reduceAdd, Nat.reduceMul, Int.reduceToNat, List.reduceReplicate, Nat.reduceLeDiff, Nat.reduceLT, Int.reduceLT, Int.reduceLE, Int.reduceEq])
  repeat' (first | with_reducible refine inw ?_ | simp (maxSteps := 900000) (disch := omega) only [go_sem, Nat.reduceEqDiff, ↓reduceIte, reduceCtorEq, Nat.reduceAdd, Nat.reduceMul, Int.reduceToNat, List.reduceReplicate, Nat.reduceLeDiff, Nat.reduceLT, Int.reduceLT, Int.reduceLE, Int.reduceEq] | with_reducible refine pickB_f ?_ | with_reducible refine giv_intro fun _h => ?_ | with_reducible refine alt_intro ?_ fun _h => ?_ | with_reducible refine pickD_nil ?_ | (with_reducible refine brc (fun _h => ?_) fun _h => ?_) <;> first | (exfalso; omega) | simp only [decide_eq_false _h] | simp only [(_h : (_ : Bool) = _)] | simp only [decide_eq_true _h] | skip)
  rw [Bool.eq_iff_iff, decide_eq_true_iff, decide_eq_true_iff, wtJ]; omega
/-- ablaut/harm.joints: 1 parameters, 0 captured -/
def s67 : SC := .seq (.reg [o1 2 (.mv (cI 0))])
  (.seq (.seq (.reg [o1 6 (.mv (.t 0)),
     o1 7 (.lenL (.t 6)),
     o1 8 (.bin .gtr (.t 7) (cI 24))])
    (.cond (.t 8) (.seq (.reg [o1 2 (.mv (cI 3))])
      (.ret)) (.skip)))
   (.seq (.seq (.reg [o1 9 (.mv (.t 0)),
      o1 10 (.lenL (.t 9)),
      o1 11 (.mv (cI 0))])
     (.block 0 (.loop (.seq (.reg [o1 12 (.bin .lss (.t 11) (.t 10))])
        (.seq (.cond (.t 12) (.skip) (.exit 0))
         (.seq (.block 1 (.seq (.reg [o1 13 (.iaddr 3 (.t 9) (.t 11)),
             o1 14 (.load (some 3) (.t 13)),
             o1 4 (.alloc 83 3 [(.slice none 0 0), (.slice none 0 0), (.slice none 0 0)]),
             o0 (.store 3 (.t 4) (.t 14))])
            (.seq (.reg [o1 15 (.faddr 0 (.t 4)),
              o1 16 (.load none (.t 15)),
              o1 17 (.faddr 1 (.t 4)),
              o1 18 (.load none (.t 17)),
              o1 19 (.faddr 2 (.t 4)),
              o1 20 (.load none (.t 19)),
              o1 21 (.buildSl 22 1 3 [(.slice none 0 0)] [(0, 1, (.t 16)), (1, 1, (.t 18)), (2, 1, (.t 20))]),
              o1 22 (.call (.f 53) [(.t 21)]),
              o1 5 (.mv (.t 22))])
             (.seq (.reg [o1 23 (.mv (.t 5)),
               o1 24 (.bin .neq (.t 23) (cI 0))])
              (.cond (.t 24) (.seq (.reg [o1 25 (.mv (.t 5)),
                 o1 2 (.mv (.t 25))])
                (.ret)) (.skip))))))
          (.reg [o1 26 (.bin .add (.t 11) (cI 1)),
           o1 11 (.mv (.t 26))])))))))
    (.seq (.seq (.reg [o1 27 (.mv (.t 0)),
       o1 28 (.call (.f 113) [(.t 27), (.f 114)])])
      (.cond (.t 28) (.seq (.reg [o1 2 (.mv (cI 1))])
        (.ret)) (.skip)))
     (.seq (.reg [o1 2 (.mv (cI 0))])
      (.ret)))))
theorem s67_ok : lookF Try.prog 67 = some (s67, 29, [.tmp 2]) := by kernel_rfl
set_option maxHeartbeats 1000000 in
theorem hJoints_ok (l : List Joint) : Fn P 67 [sl l] (intA (jntErr l)) := by
  (refine fn_look s67_ok (by simp) (by intro k; simp only [go_sem, Nat.reduceEqDiff, ↓reduceIte, reduceCtorEq, Nat.reduceAdd, Nat.reduceMul, Int.reduceToNat, List.reduceReplicate, Nat.reduceLeDiff, Nat.reduceLT, Int.reduceLT, Int.reduceLE, Int.reduceEq]) fun S hS => cwp_sound _ _ _ _ ?_; simp (maxSteps := 900000) (disch := omega) only [s67, go_sem, Nat.reduceEqDiff, ↓reduceIte, reduceCtorEq, Nat.reduceAdd, Nat.reduceMul, Int.reduceToNat, List.reduceReplicate, Nat.reduceLeDiff, Nat.reduceLT, Int.reduceLT, Int.reduceLE, Int.reduceEq])
  repeat' (first | with_reducible refine inw ?_ | simp (maxSteps := 900000) (disch := omega) only [go_sem, Nat.reduceEqDiff, ↓reduceIte, reduceCtorEq, Nat.reduceAdd, Nat.reduceMul, Int.reduceToNat, List.reduceReplicate, Nat.reduceLeDiff, Nat.reduceLT, Int.reduceLT, Int.reduceLE, Int.reduceEq] | with_reducible refine pickB_f ?_ | with_reducible refine giv_intro fun _h => ?_ | with_reducible refine alt_intro ?_ fun _h => ?_ | with_reducible refine pickD_nil ?_ | (with_reducible refine brc (fun _h => ?_) fun _h => ?_) <;> first | (exfalso; omega) | simp only [decide_eq_false _h] | simp only [(_h : (_ : Bool) = _)] | simp only [decide_eq_true _h] | skip)
  · rw [jntErr_3 (by omega)]
  (refine loopC hS [0, 9, 10] (by simp only [go_sem, Nat.reduceEqDiff, ↓reduceIte, reduceCtorEq, Nat.reduceAdd, Nat.reduceMul, Int.reduceToNat, List.reduceReplicate, Nat.reduceLeDiff, Nat.reduceLT, Int.reduceLT, Int.reduceLE, Int.reduceEq]; try rfl) (fun (i : Nat) => [(11, intA i)]) (fun (i : Nat) => []) (fun (i : Nat) => i ≤ l.length ∧ jntW l = jntW (l.drop i)) (fun (i : Nat) => l.length - i) (0) ?_ (by intro s; first | (simp only [List.length_cons, List.length_nil]; done) | rfl | (rcases s with ⟨_, _⟩; rfl) | (rcases s with ⟨_, _, _⟩; rfl) | (rcases s with ⟨_, _, _, _⟩; rfl) | (rcases s with ⟨_, _, _, _, _⟩; rfl)) ?_)
  · simp (maxSteps := 900000) (disch := omega) only [go_sem, Nat.reduceEqDiff, ↓reduceIte, reduceCtorEq, Nat.reduceAdd, Nat.reduceMul, Int.reduceToNat, List.reduceReplicate, Nat.reduceLeDiff, Nat.reduceLT, Int.reduceLT, Int.reduceLE, Int.reduceEq]; simp
  rintro i ⟨hi, hI⟩
  replace hi : i ≤ l.length := hi
  replace hI : jntW l = jntW (l.drop i) := hI
  by_cases hil : i < l.length
  · rw [nth_drop hil, jntW] at hI
    have c1 := words_ok [(nth l i).1, (nth l i).2.1, (nth l i).2.2]
    rw [show wordsErr [(nth l i).1, (nth l i).2.1, (nth l i).2.2] = jW (nth l i) from rfl] at c1
    repeat' (first | with_reducible refine inw ?_ | simp (maxSteps := 900000) (disch := omega) only [go_sem, Nat.reduceEqDiff, ↓reduceIte, reduceCtorEq, Nat.reduceAdd, Nat.reduceMul, Int.reduceToNat, List.reduceReplicate, Nat.reduceLeDiff, Nat.reduceLT, Int.reduceLT, Int.reduceLE, Int.reduceEq] | (with_reducible apply call_lend (c1)); (focus simp (maxSteps := 900000) (disch := omega) only [go_sem, Nat.reduceEqDiff, ↓reduceIte, reduceCtorEq, Nat.reduceAdd, Nat.reduceMul, Int.reduceToNat, List.reduceReplicate, Nat.reduceLeDiff, Nat.reduceLT, Int.reduceLT, Int.reduceLE, Int.reduceEq] <;> rfl); (focus rfl) | with_reducible refine pickB_f ?_ | with_reducible refine giv_intro fun _h => ?_ | with_reducible refine alt_intro ?_ fun _h => ?_ | with_reducible refine pickD_nil ?_ | (with_reducible refine brc (fun _h => ?_) fun _h => ?_) <;> first | (exfalso; omega) | simp only [decide_eq_false _h] | simp only [(_h : (_ : Bool) = _)] | simp only [decide_eq_true _h] | skip)
    · rw [jntErr_w (by omega) (by rw [hI, if_pos _h]; exact _h), hI, if_pos _h]
    · refine ⟨i + 1, ⟨by omega, by omega, ?_⟩, by omega⟩
      rw [hI, if_neg (by omega)]
  · rw [drop_end (by omega), jntW] at hI
    have c2 := jntAny_ok l (fun j => decide (wtJ j = 0)) 114 [] (by simp) fun j hj => jntZero_ok j (by have := jnt_len hI hj; omega)
    repeat' (first | with_reducible refine inw ?_ | simp (maxSteps := 900000) (disch := omega) only [go_sem, Nat.reduceEqDiff, ↓reduceIte, reduceCtorEq, Nat.reduceAdd, Nat.reduceMul, Int.reduceToNat, List.reduceReplicate, Nat.reduceLeDiff, Nat.reduceLT, Int.reduceLT, Int.reduceLE, Int.reduceEq] | (with_reducible apply call (c2)); (focus simp (maxSteps := 900000) (disch := omega) only [go_sem, Nat.reduceEqDiff, ↓reduceIte, reduceCtorEq, Nat.reduceAdd, Nat.reduceMul, Int.reduceToNat, List.reduceReplicate, Nat.reduceLeDiff, Nat.reduceLT, Int.reduceLT, Int.reduceLE, Int.reduceEq] <;> rfl) | with_reducible refine pickB_f ?_ | with_reducible refine giv_intro fun _h => ?_ | with_reducible refine alt_intro ?_ fun _h => ?_ | with_reducible refine pickD_nil ?_ | (with_reducible refine brc (fun _h => ?_) fun _h => ?_) <;> first | (exfalso; omega) | simp only [decide_eq_false _h] | simp only [(_h : (_ : Bool) = _)] | simp only [decide_eq_true _h] | skip)
    · rw [jntErr_1 (by omega) hI _h]
    · rw [jntErr_0 (by omega) hI _h]
/-- ablaut/ablautref13.Joints: 1 parameters, 0 captured -/
def s70 : SC := .seq (.reg [o1 2 (.mv (cI 0))])
  (.seq (.seq (.reg [o1 6 (.mv (.t 0)),
     o1 7 (.lenL (.t 6)),
     o1 8 (.bin .gtr (.t 7) (cI 24))])
    (.cond (.t 8) (.seq (.reg [o1 2 (.mv (cI 3))])
      (.ret)) (.skip)))
   (.seq (.seq (.reg [o1 3 (.mv (cI 0))])
     (.block 0 (.loop (.seq (.seq (.reg [o1 9 (.mv (.t 3)),
          o1 10 (.mv (.t 0)),
          o1 11 (.lenL (.t 10)),
          o1 12 (.bin .lss (.t 9) (.t 11))])
         (.cond (.t 12) (.skip) (.exit 0)))
        (.seq (.block 1 (.seq (.regC [(false, o1 15 (.mv (.t 0))),
            (false, o1 16 (.mv (.t 3))),
            (false, o1 17 (.iaddr 3 (.t 15) (.t 16))),
            (false, o1 18 (.faddr 0 (.t 17))),
            (false, o1 19 (.load none (.t 18))),
            (false, o1 20 (.mv (.t 0))),
            (false, o1 21 (.mv (.t 3))),
            (false, o1 22 (.iaddr 3 (.t 20) (.t 21))),
            (false, o1 23 (.faddr 1 (.t 22))),
            (false, o1 24 (.load none (.t 23))),
            (false, o1 25 (.mv (.t 0))),
            (false, o1 26 (.mv (.t 3))),
            (false, o1 27 (.iaddr 3 (.t 25) (.t 26))),
            (false, o1 28 (.faddr 2 (.t 27))),
            (false, o1 29 (.load none (.t 28))),
            (false, o1 30 (.buildSl 22 1 3 [(.slice none 0 0)] [(0, 1, (.t 19)), (1, 1, (.t 24)), (2, 1, (.t 29))])),
            (true, o1 31 (.call (.f 55) [(.t 30)])),
            (false, o1 4 (.mv (.t 31)))])
           (.seq (.reg [o1 32 (.mv (.t 4)),
             o1 33 (.bin .neq (.t 32) (cI 0))])
            (.cond (.t 33) (.seq (.reg [o1 34 (.mv (.t 4)),
               o1 2 (.mv (.t 34))])
              (.ret)) (.skip)))))
         (.reg [o1 13 (.mv (.t 3)),
          o1 14 (.bin .add (.t 13) (cI 1)),
          o1 3 (.mv (.t 14))]))))))
    (.seq (.seq (.reg [o1 5 (.mv (cI 0))])
      (.block 2 (.loop (.seq (.seq (.reg [o1 35 (.mv (.t 5)),
           o1 36 (.mv (.t 0)),
           o1 37 (.lenL (.t 36)),
           o1 38 (.bin .lss (.t 35) (.t 37))])
          (.cond (.t 38) (.skip) (.exit 2)))
         (.seq (.block 3 (.seq (.reg [o1 41 (.mv (.t 0)),
             o1 42 (.mv (.t 5)),
             o1 43 (.iaddr 3 (.t 41) (.t 42)),
             o1 44 (.faddr 0 (.t 43)),
             o1 45 (.load none (.t 44)),
             o1 46 (.lenL (.t 45)),
             o1 47 (.bin .eql (.t 46) (cI 0)),
             o1 48 (.mv (.t 47)),
             oT 49 (.mv (.t 0)) 48,
             oT 50 (.mv (.t 5)) 48,
             oT 51 (.iaddr 3 (.t 49) (.t 50)) 48,
             oT 52 (.faddr 1 (.t 51)) 48,
             oT 53 (.load none (.t 52)) 48,
             oT 54 (.lenL (.t 53)) 48,
             oT 55 (.bin .eql (.t 54) (cI 0)) 48,
             o1 56 (.pick (.t 48) (.t 55) (cB false))])
            (.cond (.t 56) (.seq (.reg [o1 2 (.mv (cI 1))])
              (.ret)) (.skip))))
          (.reg [o1 39 (.mv (.t 5)),
           o1 40 (.bin .add (.t 39) (cI 1)),
           o1 5 (.mv (.t 40))]))))))
     (.seq (.reg [o1 2 (.mv (cI 0))])
      (.ret)))))
theorem s70_ok : lookF Try.prog 70 = some (s70, 57, [.tmp 2]) := by kernel_rfl
set_option maxHeartbeats 1000000 in
theorem rJoints_ok (l : List Joint) : Fn P 70 [sl l] (intA (jntErr l)) := by
  (refine fn_look s70_ok (by simp) (by intro k; simp only [go_sem, Nat.reduceEqDiff, ↓reduceIte, reduceCtorEq, Nat.reduceAdd, Nat.reduceMul, Int.reduceToNat, List.reduceReplicate, Nat.reduceLeDiff, Nat.reduceLT, Int.reduceLT, Int.reduceLE, Int.reduceEq]) fun S hS => cwp_sound _ _ _ _ ?_; simp (maxSteps := 900000) (disch := omega) only [s70, go_sem, Nat.reduceEqDiff, ↓reduceIte, reduceCtorEq, Nat.reduceAdd, Nat.reduceMul, Int.reduceToNat, List.reduceReplicate, Nat.reduceLeDiff, Nat.reduceLT, Int.reduceLT, Int.reduceLE, Int.reduceEq])
  repeat' (first | with_reducible refine inw ?_ | simp (maxSteps := 900000) (disch := omega) only [go_sem, Nat.reduceEqDiff, ↓reduceIte, reduceCtorEq, Nat.reduceAdd, Nat.reduceMul, Int.reduceToNat, List.reduceReplicate, Nat.reduceLeDiff, Nat.reduceLT, Int.reduceLT, Int.reduceLE, Int.reduceEq] | with_reducible refine pickB_f ?_ | with_reducible refine giv_intro fun _h => ?_ | with_reducible refine alt_intro ?_ fun _h => ?_ | with_reducible refine pickD_nil ?_ | (with_reducible refine brc (fun _h => ?_) fun _h => ?_) <;> first | (exfalso; omega) | simp only [decide_eq_false _h] | simp only [(_h : (_ : Bool) = _)] | simp only [decide_eq_true _h] | skip)
  · rw [jntErr_3 (by omega)]
  (refine loopC hS [0] (by simp only [go_sem, Nat.reduceEqDiff, ↓reduceIte, reduceCtorEq, Nat.reduceAdd, Nat.reduceMul, Int.reduceToNat, List.reduceReplicate, Nat.reduceLeDiff, Nat.reduceLT, Int.reduceLT, Int.reduceLE, Int.reduceEq]; try rfl) (fun (i : Nat) => [(3, intA i)]) (fun (i : Nat) => []) (fun (i : Nat) => i ≤ l.length ∧ jntW l = jntW (l.drop i)) (fun (i : Nat) => l.length - i) (0) ?_ (by intro s; first | (simp only [List.length_cons, List.length_nil]; done) | rfl | (rcases s with ⟨_, _⟩; rfl) | (rcases s with ⟨_, _, _⟩; rfl) | (rcases s with ⟨_, _, _, _⟩; rfl) | (rcases s with ⟨_, _, _, _, _⟩; rfl)) ?_)
  · simp (maxSteps := 900000) (disch := omega) only [go_sem, Nat.reduceEqDiff, ↓reduceIte, reduceCtorEq, Nat.reduceAdd, Nat.reduceMul, Int.reduceToNat, List.reduceReplicate, Nat.reduceLeDiff, Nat.reduceLT, Int.reduceLT, Int.reduceLE, Int.reduceEq]; simp
  rintro i ⟨hi, hI⟩
  replace hi : i ≤ l.length := hi
  replace hI : jntW l = jntW (l.drop i) := hI
  by_cases hil : i < l.length
  · rw [nth_drop hil, jntW] at hI
    have c1 := Words_ok [(nth l i).1, (nth l i).2.1, (nth l i).2.2]
    rw [show wordsErr [(nth l i).1, (nth l i).2.1, (nth l i).2.2] = jW (nth l i) from rfl] at c1
    repeat' (first | with_reducible refine inw ?_ | simp (maxSteps := 900000) (disch := omega) only [go_sem, Nat.reduceEqDiff, ↓reduceIte, reduceCtorEq, Nat.reduceAdd, Nat.reduceMul, Int.reduceToNat, List.reduceReplicate, Nat.reduceLeDiff, Nat.reduceLT, Int.reduceLT, Int.reduceLE, Int.reduceEq] | (with_reducible apply call_D (c1)); (focus simp (maxSteps := 900000) (disch := omega) only [go_sem, Nat.reduceEqDiff, ↓reduceIte, reduceCtorEq, Nat.reduceAdd, Nat.reduceMul, Int.reduceToNat, List.reduceReplicate, Nat.reduceLeDiff, Nat.reduceLT, Int.reduceLT, Int.reduceLE, Int.reduceEq] <;> rfl) | with_reducible refine pickB_f ?_ | with_reducible refine giv_intro fun _h => ?_ | with_reducible refine alt_intro ?_ fun _h => ?_ | with_reducible refine pickD_nil ?_ | (with_reducible refine brc (fun _h => ?_) fun _h => ?_) <;> first | (exfalso; omega) | simp only [decide_eq_false _h] | simp only [(_h : (_ : Bool) = _)] | simp only [decide_eq_true _h] | skip)
    · rw [jntErr_w (by omega) (by rw [hI, if_pos _h]; exact _h), hI, if_pos _h]
    · refine ⟨i + 1, ⟨by omega, by omega, ?_⟩, by omega⟩
      rw [hI, if_neg (by omega)]
  · rw [drop_end (by omega), jntW] at hI
    repeat' (first | with_reducible refine inw ?_ | simp (maxSteps := 900000) (disch := omega) only [go_sem, Nat.reduceEqDiff, ↓reduceIte, reduceCtorEq, Nat.reduceAdd, Nat.reduceMul, Int.reduceToNat, List.reduceReplicate, Nat.reduceLeDiff, Nat.reduceLT, Int.reduceLT, Int.reduceLE, Int.reduceEq] | with_reducible refine pickB_f ?_ | with_reducible refine giv_intro fun _h => ?_ | with_reducible refine alt_intro ?_ fun _h => ?_ | with_reducible refine pickD_nil ?_ | (with_reducible refine brc (fun _h => ?_) fun _h => ?_) <;> first | (exfalso; omega) | simp only [decide_eq_false _h] | simp only [(_h : (_ : Bool) = _)] | simp only [decide_eq_true _h] | skip)
    (refine loopC hS [0] (by simp only [go_sem, Nat.reduceEqDiff, ↓reduceIte, reduceCtorEq, Nat.reduceAdd, Nat.reduceMul, Int.reduceToNat, List.reduceReplicate, Nat.reduceLeDiff, Nat.reduceLT, Int.reduceLT, Int.reduceLE, Int.reduceEq]; try rfl) (fun (k : Nat) => [(5, intA k)]) (fun (k : Nat) => []) (fun (k : Nat) => k ≤ l.length ∧ l.any (fun j => decide (wtJ j = 0)) = (l.drop k).any (fun j => decide (wtJ j = 0))) (fun (k : Nat) => l.length - k) (0) ?_ (by intro s; first | (simp only [List.length_cons, List.length_nil]; done) | rfl | (rcases s with ⟨_, _⟩; rfl) | (rcases s with ⟨_, _, _⟩; rfl) | (rcases s with ⟨_, _, _, _⟩; rfl) | (rcases s with ⟨_, _, _, _, _⟩; rfl)) ?_)
    · simp (maxSteps := 900000) (disch := omega) only [go_sem, Nat.reduceEqDiff, ↓reduceIte, reduceCtorEq, Nat.reduceAdd, Nat.reduceMul, Int.reduceToNat, List.reduceReplicate, Nat.reduceLeDiff, Nat.reduceLT, Int.reduceLT, Int.reduceLE, Int.reduceEq]; simp
    rintro k ⟨hk, hK⟩
    replace hk : k ≤ l.length := hk
    replace hK : l.any (fun j => decide (wtJ j = 0)) = (l.drop k).any (fun j => decide (wtJ j = 0)) := hK
    by_cases hkl : k < l.length
    · rw [nth_drop hkl, List.any_cons] at hK
      repeat' (first | with_reducible refine inw ?_ | simp (maxSteps := 900000) (disch := omega) only [go_sem, Nat.reduceEqDiff, ↓reduceIte, reduceCtorEq, Nat.reduceAdd, Nat.reduceMul, Int.reduceToNat, List.reduceReplicate, Nat.reduceLeDiff, Nat.reduceLT, Int.reduceLT, Int.reduceLE, Int.reduceEq] | with_reducible refine pickB_f ?_ | with_reducible refine giv_intro fun _h => ?_ | with_reducible refine alt_intro ?_ fun _h => ?_ | with_reducible refine pickD_nil ?_ | (with_reducible refine brc (fun _h => ?_) fun _h => ?_) <;> first | (exfalso; omega) | simp only [decide_eq_false _h] | simp only [(_h : (_ : Bool) = _)] | simp only [decide_eq_true _h] | skip)
      all_goals first
        | (rw [jntErr_1 (by omega) hI (by rw [hK, decide_eq_true (by simp only [wtJ]; omega)]; rfl)])
        | (refine ⟨k + 1, ⟨by omega, by omega, ?_⟩, by omega⟩
           rw [hK, decide_eq_false (by simp only [wtJ]; omega), Bool.false_or])
    · rw [drop_end (by omega)] at hK
      repeat' (first | with_reducible refine inw ?_ | simp (maxSteps := 900000) (disch := omega) only [go_sem, Nat.reduceEqDiff, ↓reduceIte, reduceCtorEq, Nat.reduceAdd, Nat.reduceMul, Int.reduceToNat, List.reduceReplicate, Nat.reduceLeDiff, Nat.reduceLT, Int.reduceLT, Int.reduceLE, Int.reduceEq] | with_reducible refine pickB_f ?_ | with_reducible refine giv_intro fun _h => ?_ | with_reducible refine alt_intro ?_ fun _h => ?_ | with_reducible refine pickD_nil ?_ | (with_reducible refine brc (fun _h => ?_) fun _h => ?_) <;> first | (exfalso; omega) | simp only [decide_eq_false _h] | simp only [(_h : (_ : Bool) = _)] | simp only [decide_eq_true _h] | skip)
      rw [jntErr_0 (by omega) hI hK]
end Go.Proofs.Ytpfoflhhbkjngaa.Ev

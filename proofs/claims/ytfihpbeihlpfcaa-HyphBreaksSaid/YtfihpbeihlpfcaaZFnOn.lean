/- The text of a word with its breaks: both. -/
import Derived.Test.YtfihpbeihlpfcaaZFnOm
set_option linter.unusedVariables false
set_option linter.unusedSimpArgs false
namespace Go.Proofs.Ytfihpbeihlpfcaa.Ev
open Go Go.Proofs

def brS (s : Str) : Str := if 1 < s.size then ⟨#[60]⟩ ++ s ++ ⟨#[62]⟩ else s
def hasI (l : List Int) (k : Int) : Bool := l.any fun x => decide (x = k)
/-- The text of the first symbols. -/
def shT (w : List Str) (at' : List Int) : Nat → Str
  | 0 => ⟨#[]⟩
  | i + 1 => (if hasI at' i = true then shT w at' i ++ ⟨#[45]⟩ else shT w at' i) ++ brS (nth w i)
theorem size_app (a b : Str) : (a ++ b).size = a.size + b.size := ByteArray.size_append
theorem brS_size {s : Str} (h : s.size ≤ 16) : (brS s).size ≤ 18 := by
  unfold brS
  split
  · rw [size_app, size_app]
    have h1 : ByteArray.size ⟨#[60]⟩ = 1 := rfl
    have h2 : ByteArray.size ⟨#[62]⟩ = 1 := rfl
    omega
  · omega
theorem shT_size {w : List Str} {at' : List Int} (h : ∀ s ∈ w, s.size ≤ 16) : ∀ i, i ≤ w.length → (shT w at' i).size ≤ i * 19
  | 0, _ => Nat.le_refl _
  | i + 1, hi => by
    have h1 := shT_size (at' := at') h i (by omega)
    have h2 := brS_size (h _ (nth_mem (show i < w.length by omega)))
    have h3 : ByteArray.size ⟨#[45]⟩ = 1 := rfl
    rw [shT, size_app]
    split
    · rw [size_app]; omega
    · omega
/-- slices.Index[[]int,int]: 2 parameters, 0 captured -/
def s89 : SC := .seq (.reg [o1 4 (.mv (cI 0))])
  (.seq (.seq (.reg [o1 6 (.mv (.t 0)),
     o1 7 (.lenL (.t 6)),
     o1 8 (.mv (cI 0))])
    (.block 0 (.loop (.seq (.reg [o1 9 (.bin .lss (.t 8) (.t 7))])
       (.seq (.cond (.t 9) (.skip) (.exit 0))
        (.seq (.block 1 (.seq (.reg [o1 10 (.mv (.t 8)),
            o1 5 (.mv (.t 10))])
           (.seq (.reg [o1 11 (.mv (.t 1)),
             o1 12 (.mv (.t 0)),
             o1 13 (.mv (.t 5)),
             o1 14 (.iaddr 1 (.t 12) (.t 13)),
             o1 15 (.load none (.t 14)),
             o1 16 (.bin .eql (.t 11) (.t 15))])
            (.cond (.t 16) (.seq (.reg [o1 17 (.mv (.t 5)),
               o1 4 (.mv (.t 17))])
              (.ret)) (.skip)))))
         (.reg [o1 18 (.bin .add (.t 8) (cI 1)),
          o1 8 (.mv (.t 18))])))))))
   (.seq (.reg [o1 4 (.mv (cI (-1)))])
    (.ret)))
theorem s89_ok : lookF Try.prog 89 = some (s89, 19, [.tmp 4]) := by kernel_rfl
theorem IndexI_ok (l : List Int) (v : Int) :
    Fn P 89 [sl l, intA v] (intA (match l.findIdx? (fun x => decide (v = x)) with | some i => (i : Int) | none => -1)) := by
  (refine fn_look s89_ok (by simp) (by intro k; simp only [go_sem, Nat.reduceEqDiff, ↓reduceIte, reduceCtorEq, Nat.reduceAdd, Nat.reduceMul, Int.reduceToNat, List.reduceReplicate, Nat.reduceLeDiff, Nat.reduceLT, Int.reduceLT, Int.reduceLE, Int.reduceEq]) fun S hS => cwp_sound _ _ _ _ ?_; simp (maxSteps := 900000) (disch := omega) only [s89, go_sem, Nat.reduceEqDiff, ↓reduceIte, reduceCtorEq, Nat.reduceAdd, Nat.reduceMul, Int.reduceToNat, List.reduceReplicate, Nat.reduceLeDiff, Nat.reduceLT, Int.reduceLT, Int.reduceLE, Int.reduceEq])
  repeat' (first | with_reducible refine inw ?_ | simp (maxSteps := 900000) (disch := omega) only [go_sem, Nat.reduceEqDiff, ↓reduceIte, reduceCtorEq, Nat.reduceAdd, Nat.reduceMul, Int.reduceToNat, List.reduceReplicate, Nat.reduceLeDiff, Nat.reduceLT, Int.reduceLT, Int.reduceLE, Int.reduceEq] | with_reducible refine pickB_f ?_ | with_reducible refine giv_intro fun _h => ?_ | with_reducible refine alt_intro ?_ fun _h => ?_ | with_reducible refine pickD_nil ?_ | (with_reducible refine brc (fun _h => ?_) fun _h => ?_) <;> first | (exfalso; omega) | simp only [decide_eq_false _h] | simp only [(_h : (_ : Bool) = _)] | simp only [decide_eq_true _h] | skip)
  (refine loopC hS [0, 1, 7] (by simp only [go_sem, Nat.reduceEqDiff, ↓reduceIte, reduceCtorEq, Nat.reduceAdd, Nat.reduceMul, Int.reduceToNat, List.reduceReplicate, Nat.reduceLeDiff, Nat.reduceLT, Int.reduceLT, Int.reduceLE, Int.reduceEq]; try rfl) (fun (i : Nat) => [(8, intA i)]) (fun (i : Nat) => []) (fun (i : Nat) => i ≤ l.length ∧ l.findIdx? (fun x => decide (v = x)) = ((l.drop i).findIdx? (fun x => decide (v = x))).map (· + i)) (fun (i : Nat) => l.length - i) (0) ?_ (by intro s; first | (simp only [List.length_cons, List.length_nil]; done) | rfl | (rcases s with ⟨_, _⟩; rfl) | (rcases s with ⟨_, _, _⟩; rfl) | (rcases s with ⟨_, _, _, _⟩; rfl) | (rcases s with ⟨_, _, _, _, _⟩; rfl)) ?_)
  · simp (maxSteps := 900000) (disch := omega) only [go_sem, Nat.reduceEqDiff, ↓reduceIte, reduceCtorEq, Nat.reduceAdd, Nat.reduceMul, Int.reduceToNat, List.reduceReplicate, Nat.reduceLeDiff, Nat.reduceLT, Int.reduceLT, Int.reduceLE, Int.reduceEq]; simp
  rintro i ⟨hi, hI⟩
  repeat' (first | with_reducible refine inw ?_ | simp (maxSteps := 900000) (disch := omega) only [go_sem, Nat.reduceEqDiff, ↓reduceIte, reduceCtorEq, Nat.reduceAdd, Nat.reduceMul, Int.reduceToNat, List.reduceReplicate, Nat.reduceLeDiff, Nat.reduceLT, Int.reduceLT, Int.reduceLE, Int.reduceEq] | with_reducible refine pickB_f ?_ | with_reducible refine giv_intro fun _h => ?_ | with_reducible refine alt_intro ?_ fun _h => ?_ | with_reducible refine pickD_nil ?_ | (with_reducible refine brc (fun _h => ?_) fun _h => ?_) <;> first | (exfalso; omega) | simp only [decide_eq_false _h] | simp only [(_h : (_ : Bool) = _)] | simp only [decide_eq_true _h] | skip)
  · rw [hI, nth_drop (by assumption)]
    simp_all [List.findIdx?_cons]
  · refine ⟨i + 1, ⟨by omega, by omega, ?_⟩, by omega⟩
    rw [hI, nth_drop (by assumption), List.findIdx?_cons]
    simp_all [Function.comp_def, Nat.add_comm, Nat.add_left_comm]
  · rw [hI, drop_end (by omega)]; rfl
/-- slices.Contains[[]int,int]: 2 parameters, 0 captured -/
def s53 : SC := .seq (.reg [o1 4 (.mv (cB false))])
  (.seq (.reg [o1 5 (.mv (.t 0)),
    o1 6 (.mv (.t 1)),
    o1 7 (.call (.f 89) [(.t 5), (.t 6)]),
    o1 8 (.bin .geq (.t 7) (cI 0)),
    o1 4 (.mv (.t 8))])
   (.ret))
theorem s53_ok : lookF Try.prog 53 = some (s53, 9, [.tmp 4]) := by kernel_rfl
theorem ContainsI_ok (l : List Int) (v : Int) : Fn P 53 [sl l, intA v] (boolA (hasI l v)) := by
  have e : hasI l v = l.any (fun x => decide (v = x)) := by
    unfold hasI; congr 1; funext x; exact decide_eq_decide.2 eq_comm
  rw [e]
  (refine fn_look s53_ok (by simp) (by intro k; simp only [go_sem, Nat.reduceEqDiff, ↓reduceIte, reduceCtorEq, Nat.reduceAdd, Nat.reduceMul, Int.reduceToNat, List.reduceReplicate, Nat.reduceLeDiff, Nat.reduceLT, Int.reduceLT, Int.reduceLE, Int.reduceEq]) fun S hS => cwp_sound _ _ _ _ ?_; simp (maxSteps := 900000) (disch := omega) only [s53, go_sem, Nat.reduceEqDiff, ↓reduceIte, reduceCtorEq, Nat.reduceAdd, Nat.reduceMul, Int.reduceToNat, List.reduceReplicate, Nat.reduceLeDiff, Nat.reduceLT, Int.reduceLT, Int.reduceLE, Int.reduceEq])
  repeat' (first | with_reducible refine inw ?_ | simp (maxSteps := 900000) (disch := omega) only [go_sem, Nat.reduceEqDiff, ↓reduceIte, reduceCtorEq, Nat.reduceAdd, Nat.reduceMul, Int.reduceToNat, List.reduceReplicate, Nat.reduceLeDiff, Nat.reduceLT, Int.reduceLT, Int.reduceLE, Int.reduceEq] | (with_reducible apply call (IndexI_ok l v)); (focus simp (maxSteps := 900000) (disch := omega) only [go_sem, Nat.reduceEqDiff, ↓reduceIte, reduceCtorEq, Nat.reduceAdd, Nat.reduceMul, Int.reduceToNat, List.reduceReplicate, Nat.reduceLeDiff, Nat.reduceLT, Int.reduceLT, Int.reduceLE, Int.reduceEq] <;> rfl) | with_reducible refine pickB_f ?_ | with_reducible refine giv_intro fun _h => ?_ | with_reducible refine alt_intro ?_ fun _h => ?_ | with_reducible refine pickD_nil ?_ | (with_reducible refine brc (fun _h => ?_) fun _h => ?_) <;> first | (exfalso; omega) | simp only [decide_eq_false _h] | simp only [(_h : (_ : Bool) = _)] | simp only [decide_eq_true _h] | skip)
  exact findIdx_anyG
/-- ablaut/ablautref24.has: 2 parameters, 0 captured -/
def s57 : SC := .seq (.reg [o1 4 (.mv (cB false))])
  (.seq (.seq (.reg [o1 5 (.mv (cI 0))])
    (.block 0 (.loop (.seq (.seq (.reg [o1 6 (.mv (.t 5)),
         o1 7 (.mv (.t 0)),
         o1 8 (.lenL (.t 7)),
         o1 9 (.bin .lss (.t 6) (.t 8))])
        (.cond (.t 9) (.skip) (.exit 0)))
       (.seq (.block 1 (.seq (.reg [o1 12 (.mv (.t 0)),
           o1 13 (.mv (.t 5)),
           o1 14 (.iaddr 1 (.t 12) (.t 13)),
           o1 15 (.load none (.t 14)),
           o1 16 (.mv (.t 1)),
           o1 17 (.bin .eql (.t 15) (.t 16))])
          (.cond (.t 17) (.seq (.reg [o1 4 (.mv (cB true))])
            (.ret)) (.skip))))
        (.reg [o1 10 (.mv (.t 5)),
         o1 11 (.bin .add (.t 10) (cI 1)),
         o1 5 (.mv (.t 11))]))))))
   (.seq (.reg [o1 4 (.mv (cB false))])
    (.ret)))
theorem s57_ok : lookF Try.prog 57 = some (s57, 18, [.tmp 4]) := by kernel_rfl
theorem has_ok (l : List Int) (v : Int) : Fn P 57 [sl l, intA v] (boolA (hasI l v)) := by
  (refine fn_look s57_ok (by simp) (by intro k; simp only [go_sem, Nat.reduceEqDiff, ↓reduceIte, reduceCtorEq, Nat.reduceAdd, Nat.reduceMul, Int.reduceToNat, List.reduceReplicate, Nat.reduceLeDiff, Nat.reduceLT, Int.reduceLT, Int.reduceLE, Int.reduceEq]) fun S hS => cwp_sound _ _ _ _ ?_; simp (maxSteps := 900000) (disch := omega) only [s57, go_sem, Nat.reduceEqDiff, ↓reduceIte, reduceCtorEq, Nat.reduceAdd, Nat.reduceMul, Int.reduceToNat, List.reduceReplicate, Nat.reduceLeDiff, Nat.reduceLT, Int.reduceLT, Int.reduceLE, Int.reduceEq])
  (refine loopC hS [0, 1] (by simp only [go_sem, Nat.reduceEqDiff, ↓reduceIte, reduceCtorEq, Nat.reduceAdd, Nat.reduceMul, Int.reduceToNat, List.reduceReplicate, Nat.reduceLeDiff, Nat.reduceLT, Int.reduceLT, Int.reduceLE, Int.reduceEq]; try rfl) (fun (i : Nat) => [(5, intA i)]) (fun (i : Nat) => []) (fun (i : Nat) => i ≤ l.length ∧ ∀ j, j < i → nth l j ≠ v) (fun (i : Nat) => l.length - i) (0) ?_ (by intro s; first | (simp only [List.length_cons, List.length_nil]; done) | rfl | (rcases s with ⟨_, _⟩; rfl) | (rcases s with ⟨_, _, _⟩; rfl) | (rcases s with ⟨_, _, _, _⟩; rfl) | (rcases s with ⟨_, _, _, _, _⟩; rfl)) ?_)
  · simp (maxSteps := 900000) (disch := omega) only [go_sem, Nat.reduceEqDiff, ↓reduceIte, reduceCtorEq, Nat.reduceAdd, Nat.reduceMul, Int.reduceToNat, List.reduceReplicate, Nat.reduceLeDiff, Nat.reduceLT, Int.reduceLT, Int.reduceLE, Int.reduceEq]
    exact ⟨Nat.zero_le _, fun j hj => absurd hj (Nat.not_lt_zero _)⟩
  rintro i ⟨hi, hI⟩
  replace hi : i ≤ l.length := hi
  replace hI : ∀ j, j < i → nth l j ≠ v := hI
  by_cases hil : i < l.length
  · have yes : nth l i = v → hasI l v = true := fun e => any_yes hil (by rw [← nth_eq hil]; exact decide_eq_true e)
    repeat' (first | with_reducible refine inw ?_ | simp (maxSteps := 900000) (disch := omega) only [go_sem, Nat.reduceEqDiff, ↓reduceIte, reduceCtorEq, Nat.reduceAdd, Nat.reduceMul, Int.reduceToNat, List.reduceReplicate, Nat.reduceLeDiff, Nat.reduceLT, Int.reduceLT, Int.reduceLE, Int.reduceEq] | with_reducible refine pickB_f ?_ | with_reducible refine giv_intro fun _h => ?_ | with_reducible refine alt_intro ?_ fun _h => ?_ | with_reducible refine pickD_nil ?_ | (with_reducible refine brc (fun _h => ?_) fun _h => ?_) <;> first | (exfalso; omega) | simp only [decide_eq_false _h] | simp only [(_h : (_ : Bool) = _)] | simp only [decide_eq_true _h] | skip)
    · exact (yes _h).symm
    · refine ⟨i + 1, ⟨by omega, by omega, fun j hj => ?_⟩, by omega⟩
      rcases Nat.lt_or_ge j i with h | h
      · exact hI j h
      · obtain rfl : j = i := by omega
        exact _h
  · have no : hasI l v = false := any_no fun j hj => by rw [← nth_eq hj]; exact decide_eq_false (hI j (by omega))
    repeat' (first | with_reducible refine inw ?_ | simp (maxSteps := 900000) (disch := omega) only [go_sem, Nat.reduceEqDiff, ↓reduceIte, reduceCtorEq, Nat.reduceAdd, Nat.reduceMul, Int.reduceToNat, List.reduceReplicate, Nat.reduceLeDiff, Nat.reduceLT, Int.reduceLT, Int.reduceLE, Int.reduceEq] | with_reducible refine pickB_f ?_ | with_reducible refine giv_intro fun _h => ?_ | with_reducible refine alt_intro ?_ fun _h => ?_ | with_reducible refine pickD_nil ?_ | (with_reducible refine brc (fun _h => ?_) fun _h => ?_) <;> first | (exfalso; omega) | simp only [decide_eq_false _h] | simp only [(_h : (_ : Bool) = _)] | simp only [decide_eq_true _h] | skip)
    exact no.symm
/-- ablaut/hyph.shown: 2 parameters, 0 captured -/
def s43 : SC := .seq (.reg [o1 4 (.mv (.c (.string ⟨#[]⟩)))])
  (.seq (.reg [o1 5 (.mv (.c (.string ⟨#[]⟩)))])
   (.seq (.seq (.reg [o1 8 (.mv (.t 0)),
      o1 9 (.lenL (.t 8)),
      o1 10 (.mv (cI 0))])
     (.block 0 (.loop (.seq (.reg [o1 11 (.bin .lss (.t 10) (.t 9))])
        (.seq (.cond (.t 11) (.skip) (.exit 0))
         (.seq (.block 1 (.seq (.reg [o1 12 (.mv (.t 10)),
             o1 13 (.iaddr 1 (.t 8) (.t 10)),
             o1 14 (.load none (.t 13)),
             o1 6 (.mv (.t 12)),
             o1 7 (.mv (.t 14))])
            (.seq (.seq (.reg [o1 15 (.mv (.t 1)),
               o1 16 (.mv (.t 6)),
               o1 17 (.call (.f 53) [(.t 15), (.t 16)])])
              (.cond (.t 17) (.reg [o1 18 (.mv (.t 5)),
                o1 19 (.bin .add (.t 18) (.c (.string ⟨#[45]⟩))),
                o1 5 (.mv (.t 19))]) (.skip)))
             (.seq (.seq (.reg [o1 20 (.mv (.t 7)),
                o1 21 (.lenS (.t 20)),
                o1 22 (.bin .gtr (.t 21) (cI 1))])
               (.cond (.t 22) (.reg [o1 23 (.mv (.t 7)),
                 o1 24 (.bin .add (.c (.string ⟨#[60]⟩)) (.t 23)),
                 o1 25 (.bin .add (.t 24) (.c (.string ⟨#[62]⟩))),
                 o1 7 (.mv (.t 25))]) (.skip)))
              (.reg [o1 26 (.mv (.t 5)),
               o1 27 (.mv (.t 7)),
               o1 28 (.bin .add (.t 26) (.t 27)),
               o1 5 (.mv (.t 28))])))))
          (.reg [o1 29 (.bin .add (.t 10) (cI 1)),
           o1 10 (.mv (.t 29))])))))))
    (.seq (.reg [o1 30 (.mv (.t 5)),
      o1 4 (.mv (.t 30))])
     (.ret))))
theorem s43_ok : lookF Try.prog 43 = some (s43, 31, [.tmp 4]) := by kernel_rfl
theorem hShown_ok (w : List Str) (at' : List Int) (hw : w.length ≤ 60) (hs : ∀ s ∈ w, s.size ≤ 16) : Fn P 43 [sl w, sl at'] (strA (shT w at' w.length)) := by
  (refine fn_look s43_ok (by simp) (by intro k; simp only [go_sem, Nat.reduceEqDiff, ↓reduceIte, reduceCtorEq, Nat.reduceAdd, Nat.reduceMul, Int.reduceToNat, List.reduceReplicate, Nat.reduceLeDiff, Nat.reduceLT, Int.reduceLT, Int.reduceLE, Int.reduceEq]) fun S hS => cwp_sound _ _ _ _ ?_; simp (maxSteps := 900000) (disch := omega) only [s43, go_sem, Nat.reduceEqDiff, ↓reduceIte, reduceCtorEq, Nat.reduceAdd, Nat.reduceMul, Int.reduceToNat, List.reduceReplicate, Nat.reduceLeDiff, Nat.reduceLT, Int.reduceLT, Int.reduceLE, Int.reduceEq])
  repeat' (first | with_reducible refine inw ?_ | simp (maxSteps := 900000) (disch := omega) only [go_sem, Nat.reduceEqDiff, ↓reduceIte, reduceCtorEq, Nat.reduceAdd, Nat.reduceMul, Int.reduceToNat, List.reduceReplicate, Nat.reduceLeDiff, Nat.reduceLT, Int.reduceLT, Int.reduceLE, Int.reduceEq] | with_reducible refine pickB_f ?_ | with_reducible refine giv_intro fun _h => ?_ | with_reducible refine alt_intro ?_ fun _h => ?_ | with_reducible refine pickD_nil ?_ | (with_reducible refine brc (fun _h => ?_) fun _h => ?_) <;> first | (exfalso; omega) | simp only [decide_eq_false _h] | simp only [(_h : (_ : Bool) = _)] | simp only [decide_eq_true _h] | skip)
  (refine loopC hS [1, 8, 9] (by simp only [go_sem, Nat.reduceEqDiff, ↓reduceIte, reduceCtorEq, Nat.reduceAdd, Nat.reduceMul, Int.reduceToNat, List.reduceReplicate, Nat.reduceLeDiff, Nat.reduceLT, Int.reduceLT, Int.reduceLE, Int.reduceEq]; try rfl) (fun (i : Nat) => [(5, strA (shT w at' i)), (10, intA i)]) (fun (i : Nat) => []) (fun (i : Nat) => i ≤ w.length) (fun (i : Nat) => w.length - i) (0) ?_ (by intro s; first | (simp only [List.length_cons, List.length_nil]; done) | rfl | (rcases s with ⟨_, _⟩; rfl) | (rcases s with ⟨_, _, _⟩; rfl) | (rcases s with ⟨_, _, _, _⟩; rfl) | (rcases s with ⟨_, _, _, _, _⟩; rfl)) ?_)
  · simp (maxSteps := 900000) (disch := omega) only [go_sem, Nat.reduceEqDiff, ↓reduceIte, reduceCtorEq, Nat.reduceAdd, Nat.reduceMul, Int.reduceToNat, List.reduceReplicate, Nat.reduceLeDiff, Nat.reduceLT, Int.reduceLT, Int.reduceLE, Int.reduceEq]
    exact ⟨Nat.zero_le _, rfl⟩
  rintro i hi
  replace hi : i ≤ w.length := hi
  by_cases hil : i < w.length
  · have c1 := ContainsI_ok at' i
    have hsz := shT_size (at' := at') hs i hi
    have hss := hs _ (nth_mem hil)
    have hst : shT w at' (i + 1) = (if hasI at' i = true then shT w at' i ++ ⟨#[45]⟩ else shT w at' i) ++ brS (nth w i) := rfl
    have hbr : brS (nth w i) = if 1 < (nth w i).size then ⟨#[60]⟩ ++ nth w i ++ ⟨#[62]⟩ else nth w i := rfl
    have h1 : ByteArray.size ⟨#[60]⟩ = 1 := rfl
    have h2 : ByteArray.size ⟨#[62]⟩ = 1 := rfl
    have h3 : ByteArray.size ⟨#[45]⟩ = 1 := rfl
    generalize hX2 : shT w at' (i + 1) = X2 at *
    generalize shT w at' i = X at *
    cases hh : hasI at' i
    · rw [hh] at c1
      rw [hh, if_neg (by decide)] at hst
      repeat' (first | with_reducible refine inw ?_ | simp (maxSteps := 900000) (disch := omega) only [go_sem, Nat.reduceEqDiff, ↓reduceIte, reduceCtorEq, Nat.reduceAdd, Nat.reduceMul, Int.reduceToNat, List.reduceReplicate, Nat.reduceLeDiff, Nat.reduceLT, Int.reduceLT, Int.reduceLE, Int.reduceEq, size_app, h1, h2, h3] | (with_reducible apply call (c1)); (focus simp (maxSteps := 900000) (disch := omega) only [go_sem, Nat.reduceEqDiff, ↓reduceIte, reduceCtorEq, Nat.reduceAdd, Nat.reduceMul, Int.reduceToNat, List.reduceReplicate, Nat.reduceLeDiff, Nat.reduceLT, Int.reduceLT, Int.reduceLE, Int.reduceEq, size_app, h1, h2, h3] <;> rfl) | with_reducible refine pickB_f ?_ | with_reducible refine giv_intro fun _h => ?_ | with_reducible refine alt_intro ?_ fun _h => ?_ | with_reducible refine pickD_nil ?_ | (with_reducible refine brc (fun _h => ?_) fun _h => ?_) <;> first | (exfalso; omega) | simp only [decide_eq_false _h] | simp only [(_h : (_ : Bool) = _)] | simp only [decide_eq_true _h] | skip)
      · exact ⟨i + 1, ⟨by omega, by omega⟩, by rw [hX2, hst, hbr, if_pos (by omega)], by omega⟩
      · exact ⟨i + 1, ⟨by omega, by omega⟩, by rw [hX2, hst, hbr, if_neg (by omega)], by omega⟩
    · rw [hh] at c1
      rw [hh, if_pos rfl] at hst
      repeat' (first | with_reducible refine inw ?_ | simp (maxSteps := 900000) (disch := omega) only [go_sem, Nat.reduceEqDiff, ↓reduceIte, reduceCtorEq, Nat.reduceAdd, Nat.reduceMul, Int.reduceToNat, List.reduceReplicate, Nat.reduceLeDiff, Nat.reduceLT, Int.reduceLT, Int.reduceLE, Int.reduceEq, size_app, h1, h2, h3] | (with_reducible apply call (c1)); (focus simp (maxSteps := 900000) (disch := omega) only [go_sem, Nat.reduceEqDiff, ↓reduceIte, reduceCtorEq, Nat.reduceAdd, Nat.reduceMul, Int.reduceToNat, List.reduceReplicate, Nat.reduceLeDiff, Nat.reduceLT, Int.reduceLT, Int.reduceLE, Int.reduceEq, size_app, h1, h2, h3] <;> rfl) | with_reducible refine pickB_f ?_ | with_reducible refine giv_intro fun _h => ?_ | with_reducible refine alt_intro ?_ fun _h => ?_ | with_reducible refine pickD_nil ?_ | (with_reducible refine brc (fun _h => ?_) fun _h => ?_) <;> first | (exfalso; omega) | simp only [decide_eq_false _h] | simp only [(_h : (_ : Bool) = _)] | simp only [decide_eq_true _h] | skip)
      · exact ⟨i + 1, ⟨by omega, by omega⟩, by rw [hX2, hst, hbr, if_pos (by omega)], by omega⟩
      · exact ⟨i + 1, ⟨by omega, by omega⟩, by rw [hX2, hst, hbr, if_neg (by omega)], by omega⟩
  · obtain rfl : i = w.length := by omega
    repeat' (first | with_reducible refine inw ?_ | simp (maxSteps := 900000) (disch := omega) only [go_sem, Nat.reduceEqDiff, ↓reduceIte, reduceCtorEq, Nat.reduceAdd, Nat.reduceMul, Int.reduceToNat, List.reduceReplicate, Nat.reduceLeDiff, Nat.reduceLT, Int.reduceLT, Int.reduceLE, Int.reduceEq] | with_reducible refine pickB_f ?_ | with_reducible refine giv_intro fun _h => ?_ | with_reducible refine alt_intro ?_ fun _h => ?_ | with_reducible refine pickD_nil ?_ | (with_reducible refine brc (fun _h => ?_) fun _h => ?_) <;> first | (exfalso; omega) | simp only [decide_eq_false _h] | simp only [(_h : (_ : Bool) = _)] | simp only [decide_eq_true _h] | skip)
theorem emp_app (x : Str) : (⟨#[]⟩ : Str) ++ x = x := by
  apply ByteArray.ext
  simp
/-- ablaut/ablautref01.Written: 1 parameters, 0 captured -/
def s78 : SC := .seq (.reg [o1 2 (.mv (.c (.string ⟨#[]⟩)))])
  (.seq (.reg [o1 3 (.mv (.c (.string ⟨#[]⟩)))])
   (.seq (.seq (.reg [o1 4 (.mv (cI 0))])
     (.block 0 (.loop (.seq (.seq (.reg [o1 5 (.mv (.t 4)),
          o1 6 (.mv (.t 0)),
          o1 7 (.lenL (.t 6)),
          o1 8 (.bin .lss (.t 5) (.t 7))])
         (.cond (.t 8) (.skip) (.exit 0)))
        (.seq (.block 1 (.seq (.reg [o1 11 (.mv (.t 0)),
            o1 12 (.mv (.t 4)),
            o1 13 (.iaddr 1 (.t 11) (.t 12)),
            o1 14 (.load none (.t 13)),
            o1 15 (.lenS (.t 14)),
            o1 16 (.bin .eql (.t 15) (cI 1))])
           (.cond (.t 16) (.reg [o1 17 (.mv (.t 3)),
             o1 18 (.mv (.t 0)),
             o1 19 (.mv (.t 4)),
             o1 20 (.iaddr 1 (.t 18) (.t 19)),
             o1 21 (.load none (.t 20)),
             o1 22 (.bin .add (.t 17) (.t 21)),
             o1 3 (.mv (.t 22))]) (.reg [o1 23 (.mv (.t 3)),
             o1 24 (.mv (.t 0)),
             o1 25 (.mv (.t 4)),
             o1 26 (.iaddr 1 (.t 24) (.t 25)),
             o1 27 (.load none (.t 26)),
             o1 28 (.bin .add (.c (.string ⟨#[60]⟩)) (.t 27)),
             o1 29 (.bin .add (.t 28) (.c (.string ⟨#[62]⟩))),
             o1 30 (.bin .add (.t 23) (.t 29)),
             o1 3 (.mv (.t 30))]))))
         (.reg [o1 9 (.mv (.t 4)),
          o1 10 (.bin .add (.t 9) (cI 1)),
          o1 4 (.mv (.t 10))]))))))
    (.seq (.reg [o1 31 (.mv (.t 3)),
      o1 2 (.mv (.t 31))])
     (.ret))))
theorem s78_ok : lookF Try.prog 78 = some (s78, 32, [.tmp 2]) := by kernel_rfl
theorem written1_ok (s : Str) (h1 : 1 ≤ s.size) (h2 : s.size ≤ 16) : Fn P 78 [sl [s]] (strA (brS s)) := by
  have hbr : brS s = if 1 < s.size then ⟨#[60]⟩ ++ s ++ ⟨#[62]⟩ else s := rfl
  have g1 : ByteArray.size ⟨#[60]⟩ = 1 := rfl
  have g2 : ByteArray.size ⟨#[62]⟩ = 1 := rfl
  have g0 : ByteArray.size ⟨#[]⟩ = 0 := rfl
  have n0 : nth [s] 0 = s := rfl
  generalize brS s = B at *
  (refine fn_look s78_ok (by simp) (by intro k; simp only [go_sem, Nat.reduceEqDiff, ↓reduceIte, reduceCtorEq, Nat.reduceAdd, Nat.reduceMul, Int.reduceToNat, List.reduceReplicate, Nat.reduceLeDiff, Nat.reduceLT, Int.reduceLT, Int.reduceLE, Int.reduceEq]) fun S hS => cwp_sound _ _ _ _ ?_; simp (maxSteps := 900000) (disch := omega) only [s78, go_sem, Nat.reduceEqDiff, ↓reduceIte, reduceCtorEq, Nat.reduceAdd, Nat.reduceMul, Int.reduceToNat, List.reduceReplicate, Nat.reduceLeDiff, Nat.reduceLT, Int.reduceLT, Int.reduceLE, Int.reduceEq])
  (refine loopC hS [0] (by simp only [go_sem, Nat.reduceEqDiff, ↓reduceIte, reduceCtorEq, Nat.reduceAdd, Nat.reduceMul, Int.reduceToNat, List.reduceReplicate, Nat.reduceLeDiff, Nat.reduceLT, Int.reduceLT, Int.reduceLE, Int.reduceEq]; try rfl) (fun (i : Nat) => [(3, strA (if i = 0 then ⟨#[]⟩ else B)), (4, intA i)]) (fun (i : Nat) => []) (fun (i : Nat) => i ≤ 1) (fun (i : Nat) => 1 - i) (0) ?_ (by intro s; first | (simp only [List.length_cons, List.length_nil]; done) | rfl | (rcases s with ⟨_, _⟩; rfl) | (rcases s with ⟨_, _, _⟩; rfl) | (rcases s with ⟨_, _, _, _⟩; rfl) | (rcases s with ⟨_, _, _, _, _⟩; rfl)) ?_)
  · simp (maxSteps := 900000) (disch := omega) only [go_sem, Nat.reduceEqDiff, ↓reduceIte, reduceCtorEq, Nat.reduceAdd, Nat.reduceMul, Int.reduceToNat, List.reduceReplicate, Nat.reduceLeDiff, Nat.reduceLT, Int.reduceLT, Int.reduceLE, Int.reduceEq]
  rintro i hi
  replace hi : i ≤ 1 := hi
  rcases Nat.eq_zero_or_pos i with rfl | hpos
  · rw [if_pos rfl]
    repeat' (first | with_reducible refine inw ?_ | simp (maxSteps := 900000) (disch := omega) only [go_sem, Nat.reduceEqDiff, ↓reduceIte, reduceCtorEq, Nat.reduceAdd, Nat.reduceMul, Int.reduceToNat, List.reduceReplicate, Nat.reduceLeDiff, Nat.reduceLT, Int.reduceLT, Int.reduceLE, Int.reduceEq, size_app, g0, g1, g2, n0] | with_reducible refine pickB_f ?_ | with_reducible refine giv_intro fun _h => ?_ | with_reducible refine alt_intro ?_ fun _h => ?_ | with_reducible refine pickD_nil ?_ | (with_reducible refine brc (fun _h => ?_) fun _h => ?_) <;> first | (exfalso; omega) | simp only [decide_eq_false _h] | simp only [(_h : (_ : Bool) = _)] | simp only [decide_eq_true _h] | skip)
    · exact ⟨1, ⟨by omega, by omega⟩, by rw [if_neg (by decide), emp_app, hbr, if_neg (by omega)], by omega⟩
    · exact ⟨1, ⟨by omega, by omega⟩, by rw [if_neg (by decide), emp_app, hbr, if_pos (by omega)], by omega⟩
  · obtain rfl : i = 1 := by omega
    rw [if_neg (by decide)]
    repeat' (first | with_reducible refine inw ?_ | simp (maxSteps := 900000) (disch := omega) only [go_sem, Nat.reduceEqDiff, ↓reduceIte, reduceCtorEq, Nat.reduceAdd, Nat.reduceMul, Int.reduceToNat, List.reduceReplicate, Nat.reduceLeDiff, Nat.reduceLT, Int.reduceLT, Int.reduceLE, Int.reduceEq] | with_reducible refine pickB_f ?_ | with_reducible refine giv_intro fun _h => ?_ | with_reducible refine alt_intro ?_ fun _h => ?_ | with_reducible refine pickD_nil ?_ | (with_reducible refine brc (fun _h => ?_) fun _h => ?_) <;> first | (exfalso; omega) | simp only [decide_eq_false _h] | simp only [(_h : (_ : Bool) = _)] | simp only [decide_eq_true _h] | skip)
    all_goals skip
/-- ablaut/ablautref24.shown: 2 parameters, 0 captured -/
def s44 : SC := .seq (.reg [o1 4 (.mv (.c (.string ⟨#[]⟩)))])
  (.seq (.reg [o1 5 (.mv (.c (.string ⟨#[]⟩)))])
   (.seq (.seq (.reg [o1 6 (.mv (cI 0))])
     (.block 0 (.loop (.seq (.seq (.reg [o1 7 (.mv (.t 6)),
          o1 8 (.mv (.t 0)),
          o1 9 (.lenL (.t 8)),
          o1 10 (.bin .leq (.t 7) (.t 9))])
         (.cond (.t 10) (.skip) (.exit 0)))
        (.seq (.block 1 (.seq (.seq (.reg [o1 13 (.mv (.t 1)),
             o1 14 (.mv (.t 6)),
             o1 15 (.call (.f 57) [(.t 13), (.t 14)])])
            (.cond (.t 15) (.reg [o1 16 (.mv (.t 5)),
              o1 17 (.bin .add (.t 16) (.c (.string ⟨#[45]⟩))),
              o1 5 (.mv (.t 17))]) (.skip)))
           (.seq (.reg [o1 18 (.mv (.t 6)),
             o1 19 (.mv (.t 0)),
             o1 20 (.lenL (.t 19)),
             o1 21 (.bin .lss (.t 18) (.t 20))])
            (.cond (.t 21) (.reg [o1 22 (.mv (.t 5)),
              o1 23 (.mv (.t 0)),
              o1 24 (.mv (.t 6)),
              o1 25 (.mv (.t 6)),
              o1 26 (.bin .add (.t 25) (cI 1)),
              o1 27 (.sl 1 (.t 23) (some (.t 24)) (some (.t 26))),
              o1 28 (.call (.f 78) [(.t 27)]),
              o1 29 (.bin .add (.t 22) (.t 28)),
              o1 5 (.mv (.t 29))]) (.skip)))))
         (.reg [o1 11 (.mv (.t 6)),
          o1 12 (.bin .add (.t 11) (cI 1)),
          o1 6 (.mv (.t 12))]))))))
    (.seq (.reg [o1 30 (.mv (.t 5)),
      o1 4 (.mv (.t 30))])
     (.ret))))
theorem s44_ok : lookF Try.prog 44 = some (s44, 31, [.tmp 4]) := by kernel_rfl
theorem rShown_ok (w : List Str) (at' : List Int) (hw : w.length ≤ 60) (hs : ∀ s ∈ w, 1 ≤ s.size ∧ s.size ≤ 16) (ha : ∀ x ∈ at', x < (w.length : Int)) : Fn P 44 [sl w, sl at'] (strA (shT w at' w.length)) := by
  have hno : hasI at' w.length = false := any_no fun j hj => decide_eq_false fun e => by have := ha _ (List.getElem_mem hj); omega
  (refine fn_look s44_ok (by simp) (by intro k; simp only [go_sem, Nat.reduceEqDiff, ↓reduceIte, reduceCtorEq, Nat.reduceAdd, Nat.reduceMul, Int.reduceToNat, List.reduceReplicate, Nat.reduceLeDiff, Nat.reduceLT, Int.reduceLT, Int.reduceLE, Int.reduceEq]) fun S hS => cwp_sound _ _ _ _ ?_; simp (maxSteps := 900000) (disch := omega) only [s44, go_sem, Nat.reduceEqDiff, ↓reduceIte, reduceCtorEq, Nat.reduceAdd, Nat.reduceMul, Int.reduceToNat, List.reduceReplicate, Nat.reduceLeDiff, Nat.reduceLT, Int.reduceLT, Int.reduceLE, Int.reduceEq])
  (refine loopC hS [0, 1] (by simp only [go_sem, Nat.reduceEqDiff, ↓reduceIte, reduceCtorEq, Nat.reduceAdd, Nat.reduceMul, Int.reduceToNat, List.reduceReplicate, Nat.reduceLeDiff, Nat.reduceLT, Int.reduceLT, Int.reduceLE, Int.reduceEq]; try rfl) (fun (i : Nat) => [(5, strA (shT w at' (min i w.length))), (6, intA i)]) (fun (i : Nat) => []) (fun (i : Nat) => i ≤ w.length + 1) (fun (i : Nat) => w.length + 1 - i) (0) ?_ (by intro s; first | (simp only [List.length_cons, List.length_nil]; done) | rfl | (rcases s with ⟨_, _⟩; rfl) | (rcases s with ⟨_, _, _⟩; rfl) | (rcases s with ⟨_, _, _, _⟩; rfl) | (rcases s with ⟨_, _, _, _, _⟩; rfl)) ?_)
  · simp (maxSteps := 900000) (disch := omega) only [go_sem, Nat.reduceEqDiff, ↓reduceIte, reduceCtorEq, Nat.reduceAdd, Nat.reduceMul, Int.reduceToNat, List.reduceReplicate, Nat.reduceLeDiff, Nat.reduceLT, Int.reduceLT, Int.reduceLE, Int.reduceEq]
    rw [Nat.zero_min]; rfl
  rintro i hi
  replace hi : i ≤ w.length + 1 := hi
  by_cases hil : i < w.length
  · have hm : min i w.length = i := by omega
    have hm2 : min (i + 1) w.length = i + 1 := by omega
    rw [hm]
    have c1 := has_ok at' i
    have hsz := shT_size (at' := at') (fun s h => (hs s h).2) i (by omega)
    obtain ⟨hs1, hs2⟩ := hs _ (nth_mem hil)
    have c2 := written1_ok (nth w i) hs1 hs2
    have hbs := brS_size hs2
    have hst : shT w at' (i + 1) = (if hasI at' i = true then shT w at' i ++ ⟨#[45]⟩ else shT w at' i) ++ brS (nth w i) := rfl
    have h3 : ByteArray.size ⟨#[45]⟩ = 1 := rfl
    have eS : List.take ((i : Int) + 1).toNat.pred (List.drop i w) = List.take i (List.drop i w) := by
      congr 1
    have eT : ((i : Int) + 1).toNat - i = 1 := by omega
    have eU : List.take 1 (List.drop i w) = [nth w i] := by rw [nth_drop hil]; rfl
    generalize hX2 : shT w at' (i + 1) = X2 at *
    generalize shT w at' i = X at *
    generalize brS (nth w i) = B at *
    cases hh : hasI at' i
    · rw [hh] at c1
      rw [hh, if_neg (by decide)] at hst
      repeat' (first | with_reducible refine inw ?_ | simp (maxSteps := 900000) (disch := omega) only [go_sem, Nat.reduceEqDiff, ↓reduceIte, reduceCtorEq, Nat.reduceAdd, Nat.reduceMul, Int.reduceToNat, List.reduceReplicate, Nat.reduceLeDiff, Nat.reduceLT, Int.reduceLT, Int.reduceLE, Int.reduceEq, size_app, h3, eT, eU] | (with_reducible apply call (c1)); (focus simp (maxSteps := 900000) (disch := omega) only [go_sem, Nat.reduceEqDiff, ↓reduceIte, reduceCtorEq, Nat.reduceAdd, Nat.reduceMul, Int.reduceToNat, List.reduceReplicate, Nat.reduceLeDiff, Nat.reduceLT, Int.reduceLT, Int.reduceLE, Int.reduceEq, size_app, h3, eT, eU] <;> rfl) | (with_reducible apply call (c2)); (focus simp (maxSteps := 900000) (disch := omega) only [go_sem, Nat.reduceEqDiff, ↓reduceIte, reduceCtorEq, Nat.reduceAdd, Nat.reduceMul, Int.reduceToNat, List.reduceReplicate, Nat.reduceLeDiff, Nat.reduceLT, Int.reduceLT, Int.reduceLE, Int.reduceEq, size_app, h3, eT, eU] <;> rfl) | with_reducible refine pickB_f ?_ | with_reducible refine giv_intro fun _h => ?_ | with_reducible refine alt_intro ?_ fun _h => ?_ | with_reducible refine pickD_nil ?_ | (with_reducible refine brc (fun _h => ?_) fun _h => ?_) <;> first | (exfalso; omega) | simp only [decide_eq_false _h] | simp only [(_h : (_ : Bool) = _)] | simp only [decide_eq_true _h] | skip)
      exact ⟨i + 1, ⟨by omega, by omega⟩, by rw [hm2, hX2, hst], by omega⟩
    · rw [hh] at c1
      rw [hh, if_pos rfl] at hst
      repeat' (first | with_reducible refine inw ?_ | simp (maxSteps := 900000) (disch := omega) only [go_sem, Nat.reduceEqDiff, ↓reduceIte, reduceCtorEq, Nat.reduceAdd, Nat.reduceMul, Int.reduceToNat, List.reduceReplicate, Nat.reduceLeDiff, Nat.reduceLT, Int.reduceLT, Int.reduceLE, Int.reduceEq, size_app, h3, eT, eU] | (with_reducible apply call (c1)); (focus simp (maxSteps := 900000) (disch := omega) only [go_sem, Nat.reduceEqDiff, ↓reduceIte, reduceCtorEq, Nat.reduceAdd, Nat.reduceMul, Int.reduceToNat, List.reduceReplicate, Nat.reduceLeDiff, Nat.reduceLT, Int.reduceLT, Int.reduceLE, Int.reduceEq, size_app, h3, eT, eU] <;> rfl) | (with_reducible apply call (c2)); (focus simp (maxSteps := 900000) (disch := omega) only [go_sem, Nat.reduceEqDiff, ↓reduceIte, reduceCtorEq, Nat.reduceAdd, Nat.reduceMul, Int.reduceToNat, List.reduceReplicate, Nat.reduceLeDiff, Nat.reduceLT, Int.reduceLT, Int.reduceLE, Int.reduceEq, size_app, h3, eT, eU] <;> rfl) | with_reducible refine pickB_f ?_ | with_reducible refine giv_intro fun _h => ?_ | with_reducible refine alt_intro ?_ fun _h => ?_ | with_reducible refine pickD_nil ?_ | (with_reducible refine brc (fun _h => ?_) fun _h => ?_) <;> first | (exfalso; omega) | simp only [decide_eq_false _h] | simp only [(_h : (_ : Bool) = _)] | simp only [decide_eq_true _h] | skip)
      exact ⟨i + 1, ⟨by omega, by omega⟩, by rw [hm2, hX2, hst], by omega⟩
  · by_cases hie : i = w.length
    · subst hie
      have c1 := has_ok at' w.length
      rw [hno] at c1
      rw [Nat.min_self]
      repeat' (first | with_reducible refine inw ?_ | simp (maxSteps := 900000) (disch := omega) only [go_sem, Nat.reduceEqDiff, ↓reduceIte, reduceCtorEq, Nat.reduceAdd, Nat.reduceMul, Int.reduceToNat, List.reduceReplicate, Nat.reduceLeDiff, Nat.reduceLT, Int.reduceLT, Int.reduceLE, Int.reduceEq] | (with_reducible apply call (c1)); (focus simp (maxSteps := 900000) (disch := omega) only [go_sem, Nat.reduceEqDiff, ↓reduceIte, reduceCtorEq, Nat.reduceAdd, Nat.reduceMul, Int.reduceToNat, List.reduceReplicate, Nat.reduceLeDiff, Nat.reduceLT, Int.reduceLT, Int.reduceLE, Int.reduceEq] <;> rfl) | with_reducible refine pickB_f ?_ | with_reducible refine giv_intro fun _h => ?_ | with_reducible refine alt_intro ?_ fun _h => ?_ | with_reducible refine pickD_nil ?_ | (with_reducible refine brc (fun _h => ?_) fun _h => ?_) <;> first | (exfalso; omega) | simp only [decide_eq_false _h] | simp only [(_h : (_ : Bool) = _)] | simp only [decide_eq_true _h] | skip)
      exact ⟨w.length + 1, ⟨by omega, by omega⟩, by rw [show min (w.length + 1) w.length = w.length by omega], by omega⟩
    · obtain rfl : i = w.length + 1 := by omega
      rw [show min (w.length + 1) w.length = w.length by omega]
      repeat' (first | with_reducible refine inw ?_ | simp (maxSteps := 900000) (disch := omega) only [go_sem, Nat.reduceEqDiff, ↓reduceIte, reduceCtorEq, Nat.reduceAdd, Nat.reduceMul, Int.reduceToNat, List.reduceReplicate, Nat.reduceLeDiff, Nat.reduceLT, Int.reduceLT, Int.reduceLE, Int.reduceEq] | with_reducible refine pickB_f ?_ | with_reducible refine giv_intro fun _h => ?_ | with_reducible refine alt_intro ?_ fun _h => ?_ | with_reducible refine pickD_nil ?_ | (with_reducible refine brc (fun _h => ?_) fun _h => ?_) <;> first | (exfalso; omega) | simp only [decide_eq_false _h] | simp only [(_h : (_ : Bool) = _)] | simp only [decide_eq_true _h] | skip)
theorem wordErr_iff {w : List Str} : wordErr w = 0 ↔ w.length ≤ 60 ∧ ∀ x ∈ w, x.size ≤ 16 ∧ okText x = true ∧ x.size ≠ 0 := by
  unfold wordErr
  constructor
  · intro h
    split at h
    · cases h
    · rename_i h1
      split at h
      · cases h
      · rename_i h2
        refine ⟨by omega, fun x hx => ?_⟩
        have e1 : w.any (fun s => decide (16 < s.size)) = false := by
          cases e : w.any (fun s => decide (16 < s.size))
          · rfl
          · exact absurd (.inr e) h1
        have e2 := List.any_eq_false.1 (Bool.not_eq_true _ ▸ h2) x hx
        simp only [Bool.not_eq_true', Bool.not_eq_false, Bool.and_eq_true, decide_eq_true_eq] at e2
        exact ⟨no_long e1 hx, e2.1, e2.2⟩
  · rintro ⟨h1, h2⟩
    rw [if_neg, if_neg]
    · intro h
      obtain ⟨x, hx, h⟩ := List.any_eq_true.1 h
      obtain ⟨_, a, b⟩ := h2 x hx
      simp [a, b] at h
    · rintro (h | h)
      · omega
      · obtain ⟨x, hx, h⟩ := List.any_eq_true.1 h
        have := (h2 x hx).1
        simp at h; omega
/-- What is told of a word with its breaks. -/
def shwR (h : Book) (w : List Str) : Str × Int := if askE h w ≠ 0 then (⟨#[]⟩, askE h w) else if 400 < (shT w (brT h w) w.length).size then (⟨#[]⟩, 3) else (shT w (brT h w) w.length, 0)
theorem brT_in {h : Book} {w : List Str} (hv : vErr h = 0) : ∀ x ∈ brT h w, 1 ≤ x ∧ x < (w.length : Int) := by
  obtain ⟨_, _, _, _, _, _, hb, _⟩ := book_facts hv
  intro x hx
  unfold brT at hx
  split at hx
  · rename_i i hf
    obtain ⟨hi, h1, _⟩ := List.findIdx?_eq_some_iff_getElem.1 hf
    rw [← nth_eq hi] at h1
    simp only [decide_eq_true_eq] at h1
    have h2 := book_at hb hi
    obtain ⟨j, hj, rfl⟩ := List.getElem_of_mem hx
    have := placesB_at h2 j hj
    rw [nth_eq hj, h1] at this
    omega
  · exact oddP_in _ _ _ _ _ x hx
theorem wk_brk {h : Book} {w : List Str} (he : askE h w = 0) : vErr h = 0 ∧ w.length ≤ 60 ∧ ∀ s ∈ w, 1 ≤ s.size ∧ s.size ≤ 16 := by
  obtain ⟨hv, hw⟩ := askE_zero he
  obtain ⟨h1, h2⟩ := wordErr_iff.1 hw
  exact ⟨hv, h1, fun s hs => by have := h2 s hs; omega⟩
/-- ablaut/hyph.Show: 2 parameters, 0 captured -/
def s19 : SC := .seq (.reg [o1 2 (.box 37 5 (.t 0)),
   o1 4 (.mv (.c (.string ⟨#[]⟩))),
   o1 5 (.mv (cI 0))])
  (.seq (.reg [o1 10 (.load (some 5) (.t 2)),
    o1 11 (.mv (.t 1)),
    o1 12 (.call (.f 12) [(.t 10), (.t 11)]),
    o1 9 (.mv (.t 12)),
    o1 13 (.ext (.t 9) 0),
    o1 14 (.ext (.t 9) 1),
    o1 6 (.mv (.t 13)),
    o1 7 (.mv (.t 14))])
   (.seq (.seq (.reg [o1 15 (.mv (.t 7)),
      o1 16 (.bin .neq (.t 15) (cI 0))])
     (.cond (.t 16) (.seq (.reg [o1 17 (.mv (.t 7)),
        o1 4 (.mv (.c (.string ⟨#[]⟩))),
        o1 5 (.mv (.t 17))])
       (.ret)) (.skip)))
    (.seq (.reg [o1 18 (.mv (.t 1)),
      o1 19 (.mv (.t 6)),
      o1 20 (.call (.f 43) [(.t 18), (.t 19)]),
      o1 8 (.mv (.t 20))])
     (.seq (.seq (.reg [o1 21 (.mv (.t 8)),
        o1 22 (.lenS (.t 21)),
        o1 23 (.bin .gtr (.t 22) (cI 400))])
       (.cond (.t 23) (.seq (.reg [o1 4 (.mv (.c (.string ⟨#[]⟩))),
          o1 5 (.mv (cI 3))])
         (.ret)) (.skip)))
      (.seq (.reg [o1 24 (.mv (.t 8)),
        o1 4 (.mv (.t 24)),
        o1 5 (.mv (cI 0))])
       (.ret))))))
theorem s19_ok : lookF Try.prog 19 = some (s19, 25, [.tmp 4, .tmp 5]) := by kernel_rfl
theorem hShow_ok (h : Book) (w : List Str) : Fn P 19 [bkA h, sl w] (.tup [strA (shwR h w).1, intA (shwR h w).2]) := by
  have c1 := hBreaksF_ok h w
  by_cases he : askE h w ≠ 0
  · rw [shwR, if_pos he]
    rw [bksR, if_pos he] at c1
    (refine fn_look s19_ok (by simp) (by intro k; simp only [go_sem, Nat.reduceEqDiff, ↓reduceIte, reduceCtorEq, Nat.reduceAdd, Nat.reduceMul, Int.reduceToNat, List.reduceReplicate, Nat.reduceLeDiff, Nat.reduceLT, Int.reduceLT, Int.reduceLE, Int.reduceEq]) fun S hS => cwp_sound _ _ _ _ ?_; simp (maxSteps := 900000) (disch := omega) only [s19, go_sem, Nat.reduceEqDiff, ↓reduceIte, reduceCtorEq, Nat.reduceAdd, Nat.reduceMul, Int.reduceToNat, List.reduceReplicate, Nat.reduceLeDiff, Nat.reduceLT, Int.reduceLT, Int.reduceLE, Int.reduceEq])
    repeat' (first | with_reducible refine inw ?_ | simp (maxSteps := 900000) (disch := omega) only [go_sem, Nat.reduceEqDiff, ↓reduceIte, reduceCtorEq, Nat.reduceAdd, Nat.reduceMul, Int.reduceToNat, List.reduceReplicate, Nat.reduceLeDiff, Nat.reduceLT, Int.reduceLT, Int.reduceLE, Int.reduceEq] | (with_reducible apply call (c1)); (focus simp (maxSteps := 900000) (disch := omega) only [go_sem, Nat.reduceEqDiff, ↓reduceIte, reduceCtorEq, Nat.reduceAdd, Nat.reduceMul, Int.reduceToNat, List.reduceReplicate, Nat.reduceLeDiff, Nat.reduceLT, Int.reduceLT, Int.reduceLE, Int.reduceEq] <;> rfl) | with_reducible refine pickB_f ?_ | with_reducible refine giv_intro fun _h => ?_ | with_reducible refine alt_intro ?_ fun _h => ?_ | with_reducible refine pickD_nil ?_ | (with_reducible refine brc (fun _h => ?_) fun _h => ?_) <;> first | (exfalso; omega) | simp only [decide_eq_false _h] | simp only [(_h : (_ : Bool) = _)] | simp only [decide_eq_true _h] | skip)
    all_goals rfl
  have he0 : askE h w = 0 := by omega
  obtain ⟨hv, hw, hs⟩ := wk_brk he0
  have c2 := hShown_ok w (brT h w) hw (fun s h => (hs s h).2)
  have hsz := shT_size (at' := brT h w) (fun s h => (hs s h).2) w.length (Nat.le_refl _)
  rw [shwR, if_neg he]
  rw [bksR, if_neg he] at c1
  generalize brT h w = R at *
  generalize shT w R w.length = X at *
  by_cases hx : 400 < X.size
  · rw [if_pos hx]
    (refine fn_look s19_ok (by simp) (by intro k; simp only [go_sem, Nat.reduceEqDiff, ↓reduceIte, reduceCtorEq, Nat.reduceAdd, Nat.reduceMul, Int.reduceToNat, List.reduceReplicate, Nat.reduceLeDiff, Nat.reduceLT, Int.reduceLT, Int.reduceLE, Int.reduceEq]) fun S hS => cwp_sound _ _ _ _ ?_; simp (maxSteps := 900000) (disch := omega) only [s19, go_sem, Nat.reduceEqDiff, ↓reduceIte, reduceCtorEq, Nat.reduceAdd, Nat.reduceMul, Int.reduceToNat, List.reduceReplicate, Nat.reduceLeDiff, Nat.reduceLT, Int.reduceLT, Int.reduceLE, Int.reduceEq])
    repeat' (first | with_reducible refine inw ?_ | simp (maxSteps := 900000) (disch := omega) only [go_sem, Nat.reduceEqDiff, ↓reduceIte, reduceCtorEq, Nat.reduceAdd, Nat.reduceMul, Int.reduceToNat, List.reduceReplicate, Nat.reduceLeDiff, Nat.reduceLT, Int.reduceLT, Int.reduceLE, Int.reduceEq] | (with_reducible apply call (c1)); (focus simp (maxSteps := 900000) (disch := omega) only [go_sem, Nat.reduceEqDiff, ↓reduceIte, reduceCtorEq, Nat.reduceAdd, Nat.reduceMul, Int.reduceToNat, List.reduceReplicate, Nat.reduceLeDiff, Nat.reduceLT, Int.reduceLT, Int.reduceLE, Int.reduceEq] <;> rfl) | (with_reducible apply call (c2)); (focus simp (maxSteps := 900000) (disch := omega) only [go_sem, Nat.reduceEqDiff, ↓reduceIte, reduceCtorEq, Nat.reduceAdd, Nat.reduceMul, Int.reduceToNat, List.reduceReplicate, Nat.reduceLeDiff, Nat.reduceLT, Int.reduceLT, Int.reduceLE, Int.reduceEq] <;> rfl) | with_reducible refine pickB_f ?_ | with_reducible refine giv_intro fun _h => ?_ | with_reducible refine alt_intro ?_ fun _h => ?_ | with_reducible refine pickD_nil ?_ | (with_reducible refine brc (fun _h => ?_) fun _h => ?_) <;> first | (exfalso; omega) | simp only [decide_eq_false _h] | simp only [(_h : (_ : Bool) = _)] | simp only [decide_eq_true _h] | skip)
    all_goals rfl
  · rw [if_neg hx]
    (refine fn_look s19_ok (by simp) (by intro k; simp only [go_sem, Nat.reduceEqDiff, ↓reduceIte, reduceCtorEq, Nat.reduceAdd, Nat.reduceMul, Int.reduceToNat, List.reduceReplicate, Nat.reduceLeDiff, Nat.reduceLT, Int.reduceLT, Int.reduceLE, Int.reduceEq]) fun S hS => cwp_sound _ _ _ _ ?_; simp (maxSteps := 900000) (disch := omega) only [s19, go_sem, Nat.reduceEqDiff, ↓reduceIte, reduceCtorEq, Nat.reduceAdd, Nat.reduceMul, Int.reduceToNat, List.reduceReplicate, Nat.reduceLeDiff, Nat.reduceLT, Int.reduceLT, Int.reduceLE, Int.reduceEq])
    repeat' (first | with_reducible refine inw ?_ | simp (maxSteps := 900000) (disch := omega) only [go_sem, Nat.reduceEqDiff, ↓reduceIte, reduceCtorEq, Nat.reduceAdd, Nat.reduceMul, Int.reduceToNat, List.reduceReplicate, Nat.reduceLeDiff, Nat.reduceLT, Int.reduceLT, Int.reduceLE, Int.reduceEq] | (with_reducible apply call (c1)); (focus simp (maxSteps := 900000) (disch := omega) only [go_sem, Nat.reduceEqDiff, ↓reduceIte, reduceCtorEq, Nat.reduceAdd, Nat.reduceMul, Int.reduceToNat, List.reduceReplicate, Nat.reduceLeDiff, Nat.reduceLT, Int.reduceLT, Int.reduceLE, Int.reduceEq] <;> rfl) | (with_reducible apply call (c2)); (focus simp (maxSteps := 900000) (disch := omega) only [go_sem, Nat.reduceEqDiff, ↓reduceIte, reduceCtorEq, Nat.reduceAdd, Nat.reduceMul, Int.reduceToNat, List.reduceReplicate, Nat.reduceLeDiff, Nat.reduceLT, Int.reduceLT, Int.reduceLE, Int.reduceEq] <;> rfl) | with_reducible refine pickB_f ?_ | with_reducible refine giv_intro fun _h => ?_ | with_reducible refine alt_intro ?_ fun _h => ?_ | with_reducible refine pickD_nil ?_ | (with_reducible refine brc (fun _h => ?_) fun _h => ?_) <;> first | (exfalso; omega) | simp only [decide_eq_false _h] | simp only [(_h : (_ : Bool) = _)] | simp only [decide_eq_true _h] | skip)
    all_goals rfl
/-- ablaut/ablautref24.Show: 2 parameters, 0 captured -/
def s20 : SC := .seq (.reg [o1 2 (.box 37 5 (.t 0)),
   o1 4 (.mv (.c (.string ⟨#[]⟩))),
   o1 5 (.mv (cI 0))])
  (.seq (.seq (.reg [o1 8 (.load (some 5) (.t 2)),
     o1 9 (.mv (.t 1)),
     o1 10 (.call (.f 40) [(.t 8), (.t 9)]),
     o1 6 (.mv (.t 10))])
    (.seq (.reg [o1 11 (.mv (.t 6)),
      o1 12 (.bin .neq (.t 11) (cI 0))])
     (.cond (.t 12) (.seq (.reg [o1 13 (.mv (.t 6)),
        o1 4 (.mv (.c (.string ⟨#[]⟩))),
        o1 5 (.mv (.t 13))])
       (.ret)) (.skip))))
   (.seq (.reg [o1 14 (.mv (.t 1)),
     o1 15 (.load (some 5) (.t 2)),
     o1 16 (.mv (.t 1)),
     o1 17 (.call (.f 42) [(.t 15), (.t 16)]),
     o1 18 (.call (.f 44) [(.t 14), (.t 17)]),
     o1 7 (.mv (.t 18))])
    (.seq (.seq (.reg [o1 19 (.mv (.t 7)),
       o1 20 (.lenS (.t 19)),
       o1 21 (.bin .gtr (.t 20) (cI 400))])
      (.cond (.t 21) (.seq (.reg [o1 4 (.mv (.c (.string ⟨#[]⟩))),
         o1 5 (.mv (cI 3))])
        (.ret)) (.skip)))
     (.seq (.reg [o1 22 (.mv (.t 7)),
       o1 4 (.mv (.t 22)),
       o1 5 (.mv (cI 0))])
      (.ret)))))
theorem s20_ok : lookF Try.prog 20 = some (s20, 23, [.tmp 4, .tmp 5]) := by kernel_rfl
theorem rShow_ok (h : Book) (w : List Str) : Fn P 20 [bkA h, sl w] (.tup [strA (shwR h w).1, intA (shwR h w).2]) := by
  have c1 := asked_ok h w
  by_cases he : askE h w ≠ 0
  · rw [shwR, if_pos he]
    (refine fn_look s20_ok (by simp) (by intro k; simp only [go_sem, Nat.reduceEqDiff, ↓reduceIte, reduceCtorEq, Nat.reduceAdd, Nat.reduceMul, Int.reduceToNat, List.reduceReplicate, Nat.reduceLeDiff, Nat.reduceLT, Int.reduceLT, Int.reduceLE, Int.reduceEq]) fun S hS => cwp_sound _ _ _ _ ?_; simp (maxSteps := 900000) (disch := omega) only [s20, go_sem, Nat.reduceEqDiff, ↓reduceIte, reduceCtorEq, Nat.reduceAdd, Nat.reduceMul, Int.reduceToNat, List.reduceReplicate, Nat.reduceLeDiff, Nat.reduceLT, Int.reduceLT, Int.reduceLE, Int.reduceEq])
    repeat' (first | with_reducible refine inw ?_ | simp (maxSteps := 900000) (disch := omega) only [go_sem, Nat.reduceEqDiff, ↓reduceIte, reduceCtorEq, Nat.reduceAdd, Nat.reduceMul, Int.reduceToNat, List.reduceReplicate, Nat.reduceLeDiff, Nat.reduceLT, Int.reduceLT, Int.reduceLE, Int.reduceEq] | (with_reducible apply call (c1)); (focus simp (maxSteps := 900000) (disch := omega) only [go_sem, Nat.reduceEqDiff, ↓reduceIte, reduceCtorEq, Nat.reduceAdd, Nat.reduceMul, Int.reduceToNat, List.reduceReplicate, Nat.reduceLeDiff, Nat.reduceLT, Int.reduceLT, Int.reduceLE, Int.reduceEq] <;> rfl) | with_reducible refine pickB_f ?_ | with_reducible refine giv_intro fun _h => ?_ | with_reducible refine alt_intro ?_ fun _h => ?_ | with_reducible refine pickD_nil ?_ | (with_reducible refine brc (fun _h => ?_) fun _h => ?_) <;> first | (exfalso; omega) | simp only [decide_eq_false _h] | simp only [(_h : (_ : Bool) = _)] | simp only [decide_eq_true _h] | skip)
    all_goals rfl
  have he0 : askE h w = 0 := by omega
  obtain ⟨hv, hw, hs⟩ := wk_brk he0
  have c3 := rBreaks_ok h w hv hw
  have c2 := rShown_ok w (brT h w) hw hs (fun x hx => (brT_in hv x hx).2)
  have hsz := shT_size (at' := brT h w) (fun s h => (hs s h).2) w.length (Nat.le_refl _)
  rw [shwR, if_neg he]
  rw [he0] at c1
  generalize brT h w = R at *
  generalize shT w R w.length = X at *
  by_cases hx : 400 < X.size
  · rw [if_pos hx]
    (refine fn_look s20_ok (by simp) (by intro k; simp only [go_sem, Nat.reduceEqDiff, ↓reduceIte, reduceCtorEq, Nat.reduceAdd, Nat.reduceMul, Int.reduceToNat, List.reduceReplicate, Nat.reduceLeDiff, Nat.reduceLT, Int.reduceLT, Int.reduceLE, Int.reduceEq]) fun S hS => cwp_sound _ _ _ _ ?_; simp (maxSteps := 900000) (disch := omega) only [s20, go_sem, Nat.reduceEqDiff, ↓reduceIte, reduceCtorEq, Nat.reduceAdd, Nat.reduceMul, Int.reduceToNat, List.reduceReplicate, Nat.reduceLeDiff, Nat.reduceLT, Int.reduceLT, Int.reduceLE, Int.reduceEq])
    repeat' (first | with_reducible refine inw ?_ | simp (maxSteps := 900000) (disch := omega) only [go_sem, Nat.reduceEqDiff, ↓reduceIte, reduceCtorEq, Nat.reduceAdd, Nat.reduceMul, Int.reduceToNat, List.reduceReplicate, Nat.reduceLeDiff, Nat.reduceLT, Int.reduceLT, Int.reduceLE, Int.reduceEq] | (with_reducible apply call (c1)); (focus simp (maxSteps := 900000) (disch := omega) only [go_sem, Nat.reduceEqDiff, ↓reduceIte, reduceCtorEq, Nat.reduceAdd, Nat.reduceMul, Int.reduceToNat, List.reduceReplicate, Nat.reduceLeDiff, Nat.reduceLT, Int.reduceLT, Int.reduceLE, Int.reduceEq] <;> rfl) | (with_reducible apply call (c3)); (focus simp (maxSteps := 900000) (disch := omega) only [go_sem, Nat.reduceEqDiff, ↓reduceIte, reduceCtorEq, Nat.reduceAdd, Nat.reduceMul, Int.reduceToNat, List.reduceReplicate, Nat.reduceLeDiff, Nat.reduceLT, Int.reduceLT, Int.reduceLE, Int.reduceEq] <;> rfl) | (with_reducible apply call (c2)); (focus simp (maxSteps := 900000) (disch := omega) only [go_sem, Nat.reduceEqDiff, ↓reduceIte, reduceCtorEq, Nat.reduceAdd, Nat.reduceMul, Int.reduceToNat, List.reduceReplicate, Nat.reduceLeDiff, Nat.reduceLT, Int.reduceLT, Int.reduceLE, Int.reduceEq] <;> rfl) | with_reducible refine pickB_f ?_ | with_reducible refine giv_intro fun _h => ?_ | with_reducible refine alt_intro ?_ fun _h => ?_ | with_reducible refine pickD_nil ?_ | (with_reducible refine brc (fun _h => ?_) fun _h => ?_) <;> first | (exfalso; omega) | simp only [decide_eq_false _h] | simp only [(_h : (_ : Bool) = _)] | simp only [decide_eq_true _h] | skip)
    all_goals rfl
  · rw [if_neg hx]
    (refine fn_look s20_ok (by simp) (by intro k; simp only [go_sem, Nat.reduceEqDiff, ↓reduceIte, reduceCtorEq, Nat.reduceAdd, Nat.reduceMul, Int.reduceToNat, List.reduceReplicate, Nat.reduceLeDiff, Nat.reduceLT, Int.reduceLT, Int.reduceLE, Int.reduceEq]) fun S hS => cwp_sound _ _ _ _ ?_; simp (maxSteps := 900000) (disch := omega) only [s20, go_sem, Nat.reduceEqDiff, ↓reduceIte, reduceCtorEq, Nat.reduceAdd, Nat.reduceMul, Int.reduceToNat, List.reduceReplicate, Nat.reduceLeDiff, Nat.reduceLT, Int.reduceLT, Int.reduceLE, Int.reduceEq])
    repeat' (first | with_reducible refine inw ?_ | simp (maxSteps := 900000) (disch := omega) only [go_sem, Nat.reduceEqDiff, ↓reduceIte, reduceCtorEq, Nat.reduceAdd, Nat.reduceMul, Int.reduceToNat, List.reduceReplicate, Nat.reduceLeDiff, Nat.reduceLT, Int.reduceLT, Int.reduceLE, Int.reduceEq] | (with_reducible apply call (c1)); (focus simp (maxSteps := 900000) (disch := omega) only [go_sem, Nat.reduceEqDiff, ↓reduceIte, reduceCtorEq, Nat.reduceAdd, Nat.reduceMul, Int.reduceToNat, List.reduceReplicate, Nat.reduceLeDiff, Nat.reduceLT, Int.reduceLT, Int.reduceLE, Int.reduceEq] <;> rfl) | (with_reducible apply call (c3)); (focus simp (maxSteps := 900000) (disch := omega) only [go_sem, Nat.reduceEqDiff, ↓reduceIte, reduceCtorEq, Nat.reduceAdd, Nat.reduceMul, Int.reduceToNat, List.reduceReplicate, Nat.reduceLeDiff, Nat.reduceLT, Int.reduceLT, Int.reduceLE, Int.reduceEq] <;> rfl) | (with_reducible apply call (c2)); (focus simp (maxSteps := 900000) (disch := omega) only [go_sem, Nat.reduceEqDiff, ↓reduceIte, reduceCtorEq, Nat.reduceAdd, Nat.reduceMul, Int.reduceToNat, List.reduceReplicate, Nat.reduceLeDiff, Nat.reduceLT, Int.reduceLT, Int.reduceLE, Int.reduceEq] <;> rfl) | with_reducible refine pickB_f ?_ | with_reducible refine giv_intro fun _h => ?_ | with_reducible refine alt_intro ?_ fun _h => ?_ | with_reducible refine pickD_nil ?_ | (with_reducible refine brc (fun _h => ?_) fun _h => ?_) <;> first | (exfalso; omega) | simp only [decide_eq_false _h] | simp only [(_h : (_ : Bool) = _)] | simp only [decide_eq_true _h] | skip)
    all_goals rfl
end Go.Proofs.Ytfihpbeihlpfcaa.Ev

/- Which books there are: the program. -/
import Derived.Test.YtfihpbeihlpfcaaZFnOe
set_option linter.unusedVariables false
set_option linter.unusedSimpArgs false
namespace Go.Proofs.Ytfihpbeihlpfcaa.Ev
open Go Go.Proofs

abbrev Brk := List Str × List Int
abbrev Trn := List Str × List Str × List Str × Int
abbrev Book := Int × Int × List Pat × List Brk × List Trn
abbrev bkA (h : Book) : AV := .agg [intA h.1, intA h.2.1, sl h.2.2.1, sl h.2.2.2.1, sl h.2.2.2.2]
def okAt (l : List Int) (n : Int) (i : Nat) : Bool := decide (1 ≤ nth l i) && decide (nth l i < n) && (decide (i = 0) || decide (nth l (i - 1) < nth l i))
/-- Places strictly ascending inside a word of a length. -/
def placesB (l : List Int) (n : Int) : Bool := (List.range l.length).all (okAt l n)
theorem range_yes {n : Nat} {p : Nat → Bool} (h : ∀ j, j < n → p j = true) : (List.range n).all p = true := List.all_eq_true.2 fun j hj => h j (List.mem_range.1 hj)
theorem range_no {n i : Nat} {p : Nat → Bool} (hi : i < n) (h : p i = false) : (List.range n).all p = false := by
  rw [← Bool.not_eq_true]; intro e
  have := List.all_eq_true.1 e i (List.mem_range.2 hi)
  rw [h] at this; cases this
theorem range_succ (n : Nat) (p : Nat → Bool) : (List.range (n + 1)).all p = ((List.range n).all p && p n) := by
  rw [List.range_succ, List.all_append]; simp
theorem step_all {p : Nat → Bool} {i : Nat} (h : ∀ j, j < i → p j = true) (hi : p i = true) : ∀ j, j < i + 1 → p j = true := fun j hj => by
  rcases Nat.lt_or_ge j i with h1 | h1
  · exact h j h1
  · obtain rfl : j = i := by omega
    exact hi
/-- ablaut/hyph.isAt: 2 parameters, 0 captured -/
def s49 : SC := .seq (.reg [o1 4 (.mv (cB false))])
  (.seq (.seq (.reg [o1 7 (.mv (.t 0)),
     o1 8 (.lenL (.t 7)),
     o1 9 (.mv (cI 0))])
    (.block 0 (.loop (.seq (.reg [o1 10 (.bin .lss (.t 9) (.t 8))])
       (.seq (.cond (.t 10) (.skip) (.exit 0))
        (.seq (.block 1 (.seq (.reg [o1 11 (.mv (.t 9)),
            o1 12 (.iaddr 1 (.t 7) (.t 9)),
            o1 13 (.load none (.t 12)),
            o1 5 (.mv (.t 11)),
            o1 6 (.mv (.t 13))])
           (.seq (.reg [o1 14 (.mv (.t 6)),
             o1 15 (.bin .lss (.t 14) (cI 1)),
             o1 16 (.mv (.t 15)),
             oF 17 (.mv (.t 6)) 16,
             oF 18 (.mv (.t 1)) 16,
             oF 19 (.bin .geq (.t 17) (.t 18)) 16,
             o1 20 (.pick (.t 16) (cB true) (.t 19)),
             o1 21 (.mv (.t 20)),
             oF 22 (.mv (.t 5)) 21,
             oF 23 (.bin .gtr (.t 22) (cI 0)) 21,
             oF 24 (.mv (.t 23)) 21,
             oT 25 (.mv (.t 0)) 24,
             oT 26 (.mv (.t 5)) 24,
             oT 27 (.bin .sub (.t 26) (cI 1)) 24,
             oT 28 (.iaddr 1 (.t 25) (.t 27)) 24,
             oT 29 (.load none (.t 28)) 24,
             oT 30 (.mv (.t 6)) 24,
             oT 31 (.bin .geq (.t 29) (.t 30)) 24,
             oF 32 (.pick (.t 24) (.t 31) (cB false)) 21,
             o1 33 (.pick (.t 21) (cB true) (.t 32))])
            (.cond (.t 33) (.seq (.reg [o1 4 (.mv (cB false))])
              (.ret)) (.skip)))))
         (.reg [o1 34 (.bin .add (.t 9) (cI 1)),
          o1 9 (.mv (.t 34))])))))))
   (.seq (.reg [o1 4 (.mv (cB true))])
    (.ret)))
theorem s49_ok : lookF Try.prog 49 = some (s49, 35, [.tmp 4]) := by kernel_rfl
theorem isAt_ok (l : List Int) (n : Int) : Fn P 49 [sl l, intA n] (boolA (placesB l n)) := by
  (refine fn_look s49_ok (by simp) (by intro k; simp only [go_sem, Nat.reduceEqDiff, ↓reduceIte, reduceCtorEq, Nat.reduceAdd, Nat.reduceMul, Int.reduceToNat, List.reduceReplicate, Nat.reduceLeDiff, Nat.reduceLT, Int.reduceLT, Int.reduceLE, Int.reduceEq]) fun S hS => cwp_sound _ _ _ _ ?_; simp (maxSteps := 900000) (disch := omega) only [s49, go_sem, Nat.reduceEqDiff, ↓reduceIte, reduceCtorEq, Nat.reduceAdd, Nat.reduceMul, Int.reduceToNat, List.reduceReplicate, Nat.reduceLeDiff, Nat.reduceLT, Int.reduceLT, Int.reduceLE, Int.reduceEq])
  repeat' (first | with_reducible refine inw ?_ | simp (maxSteps := 900000) (disch := omega) only [go_sem, Nat.reduceEqDiff, ↓reduceIte, reduceCtorEq, Nat.reduceAdd, Nat.reduceMul, Int.reduceToNat, List.reduceReplicate, Nat.reduceLeDiff, Nat.reduceLT, Int.reduceLT, Int.reduceLE, Int.reduceEq] | with_reducible refine pickB_f ?_ | with_reducible refine giv_intro fun _h => ?_ | with_reducible refine alt_intro ?_ fun _h => ?_ | with_reducible refine pickD_nil ?_ | (with_reducible refine brc (fun _h => ?_) fun _h => ?_) <;> first | (exfalso; omega) | simp only [decide_eq_false _h] | simp only [(_h : (_ : Bool) = _)] | simp only [decide_eq_true _h] | skip)
  (refine loopC hS [0, 1, 7, 8] (by simp only [go_sem, Nat.reduceEqDiff, ↓reduceIte, reduceCtorEq, Nat.reduceAdd, Nat.reduceMul, Int.reduceToNat, List.reduceReplicate, Nat.reduceLeDiff, Nat.reduceLT, Int.reduceLT, Int.reduceLE, Int.reduceEq]; try rfl) (fun (i : Nat) => [(9, intA i)]) (fun (i : Nat) => []) (fun (i : Nat) => i ≤ l.length ∧ ∀ j, j < i → okAt l n j = true) (fun (i : Nat) => l.length - i) (0) ?_ (by intro s; first | (simp only [List.length_cons, List.length_nil]; done) | rfl | (rcases s with ⟨_, _⟩; rfl) | (rcases s with ⟨_, _, _⟩; rfl) | (rcases s with ⟨_, _, _, _⟩; rfl) | (rcases s with ⟨_, _, _, _, _⟩; rfl)) ?_)
  · simp (maxSteps := 900000) (disch := omega) only [go_sem, Nat.reduceEqDiff, ↓reduceIte, reduceCtorEq, Nat.reduceAdd, Nat.reduceMul, Int.reduceToNat, List.reduceReplicate, Nat.reduceLeDiff, Nat.reduceLT, Int.reduceLT, Int.reduceLE, Int.reduceEq]
    exact ⟨Nat.zero_le _, fun j hj => absurd hj (Nat.not_lt_zero _)⟩
  rintro i ⟨hi, hI⟩
  replace hi : i ≤ l.length := hi
  replace hI : ∀ j, j < i → okAt l n j = true := hI
  by_cases hil : i < l.length
  · have e1 : ((i : Int) - 1).toNat = i - 1 := by omega
    have no : okAt l n i = false → placesB l n = false := range_no hil
    repeat' (first | with_reducible refine inw ?_ | simp (maxSteps := 900000) (disch := omega) only [go_sem, Nat.reduceEqDiff, ↓reduceIte, reduceCtorEq, Nat.reduceAdd, Nat.reduceMul, Int.reduceToNat, List.reduceReplicate, Nat.reduceLeDiff, Nat.reduceLT, Int.reduceLT, Int.reduceLE, Int.reduceEq, e1] | with_reducible refine pickB_f ?_ | with_reducible refine giv_intro fun _h => ?_ | with_reducible refine alt_intro ?_ fun _h => ?_ | with_reducible refine pickD_nil ?_ | (with_reducible refine brc (fun _h => ?_) fun _h => ?_) <;> first | (exfalso; omega) | simp only [decide_eq_false _h] | simp only [(_h : (_ : Bool) = _)] | simp only [decide_eq_true _h] | skip)
    all_goals first
      | exact (no (by simp [okAt]; omega)).symm
      | exact ⟨i + 1, ⟨by omega, by omega, step_all hI (by simp [okAt]; omega)⟩, by omega⟩
  · have yes : placesB l n = true := range_yes fun j hj => hI j (by omega)
    repeat' (first | with_reducible refine inw ?_ | simp (maxSteps := 900000) (disch := omega) only [go_sem, Nat.reduceEqDiff, ↓reduceIte, reduceCtorEq, Nat.reduceAdd, Nat.reduceMul, Int.reduceToNat, List.reduceReplicate, Nat.reduceLeDiff, Nat.reduceLT, Int.reduceLT, Int.reduceLE, Int.reduceEq] | with_reducible refine pickB_f ?_ | with_reducible refine giv_intro fun _h => ?_ | with_reducible refine alt_intro ?_ fun _h => ?_ | with_reducible refine pickD_nil ?_ | (with_reducible refine brc (fun _h => ?_) fun _h => ?_) <;> first | (exfalso; omega) | simp only [decide_eq_false _h] | simp only [(_h : (_ : Bool) = _)] | simp only [decide_eq_true _h] | skip)
    exact yes.symm
/-- ablaut/hyph.isPattern$1: 1 parameters, 0 captured -/
def s84 : SC := .seq (.reg [o1 2 (.mv (cB false))])
  (.seq (.reg [o1 3 (.mv (.t 0)),
    o1 4 (.bin .lss (.t 3) (cI 0)),
    o1 5 (.mv (.t 4)),
    oF 6 (.mv (.t 0)) 5,
    oF 7 (.bin .gtr (.t 6) (cI 9)) 5,
    o1 8 (.pick (.t 5) (cB true) (.t 7)),
    o1 2 (.mv (.t 8))])
   (.ret))
theorem s84_ok : lookF Try.prog 84 = some (s84, 9, [.tmp 2]) := by kernel_rfl
theorem isPat1_ok (k : Int) : Fn P 84 [intA k] (boolA (decide (k < 0 ∨ 9 < k))) := by
  (refine fn_look s84_ok (by simp) (by intro k; simp only [go_sem, Nat.reduceEqDiff, ↓reduceIte, reduceCtorEq, Nat.reduceAdd, Nat.reduceMul, Int.reduceToNat, List.reduceReplicate, Nat.reduceLeDiff, Nat.reduceLT, Int.reduceLT, Int.reduceLE, Int.reduceEq]) fun S hS => cwp_sound _ _ _ _ ?_; simp (maxSteps := 900000) (disch := omega) only [s84, go_sem, Nat.reduceEqDiff, ↓reduceIte, reduceCtorEq, Nat.reduceAdd, Nat.reduceMul, Int.reduceToNat, List.reduceReplicate, Nat.reduceLeDiff, Nat.reduceLT, Int.reduceLT, Int.reduceLE, Int.reduceEq])
  repeat' (first | with_reducible refine inw ?_ | simp (maxSteps := 900000) (disch := omega) only [go_sem, Nat.reduceEqDiff, ↓reduceIte, reduceCtorEq, Nat.reduceAdd, Nat.reduceMul, Int.reduceToNat, List.reduceReplicate, Nat.reduceLeDiff, Nat.reduceLT, Int.reduceLT, Int.reduceLE, Int.reduceEq] | with_reducible refine pickB_f ?_ | with_reducible refine giv_intro fun _h => ?_ | with_reducible refine alt_intro ?_ fun _h => ?_ | with_reducible refine pickD_nil ?_ | (with_reducible refine brc (fun _h => ?_) fun _h => ?_) <;> first | (exfalso; omega) | simp only [decide_eq_false _h] | simp only [(_h : (_ : Bool) = _)] | simp only [decide_eq_true _h] | skip)
  · exact (decide_eq_true (.inl _h)).symm
  · exact decide_eq_decide.2 ⟨.inr, fun h => h.resolve_left _h⟩
theorem findIdx_anyG {α : Type} {l : List α} {p : α → Bool} : decide (0 ≤ (match l.findIdx? p with | some i => (i : Int) | none => -1)) = l.any p := by
  cases h : l.findIdx? p with
  | none => have := List.findIdx?_eq_none_iff.1 h; simp; simpa using this
  | some i =>
    obtain ⟨h1, h2, _⟩ := List.findIdx?_eq_some_iff_getElem.1 h
    have : l.any p = true := List.any_eq_true.2 ⟨l[i], List.getElem_mem h1, h2⟩
    rw [this]; simp
/-- slices.IndexFunc[[]int,int]: 2 parameters, 0 captured -/
def s96 : SC := .seq (.reg [o1 4 (.mv (cI 0))])
  (.seq (.seq (.reg [o1 6 (.mv (.t 0)),
     o1 7 (.lenL (.t 6)),
     o1 8 (.mv (cI 0))])
    (.block 0 (.loop (.seq (.reg [o1 9 (.bin .lss (.t 8) (.t 7))])
       (.seq (.cond (.t 9) (.skip) (.exit 0))
        (.seq (.block 1 (.seq (.reg [o1 10 (.mv (.t 8)),
            o1 5 (.mv (.t 10))])
           (.seq (.reg [o1 11 (.mv (.t 1)),
             o1 12 (.mv (.t 0)),
             o1 13 (.mv (.t 5)),
             o1 14 (.iaddr 1 (.t 12) (.t 13)),
             o1 15 (.load none (.t 14)),
             o1 16 (.call (.t 11) [(.t 15)])])
            (.cond (.t 16) (.seq (.reg [o1 17 (.mv (.t 5)),
               o1 4 (.mv (.t 17))])
              (.ret)) (.skip)))))
         (.reg [o1 18 (.bin .add (.t 8) (cI 1)),
          o1 8 (.mv (.t 18))])))))))
   (.seq (.reg [o1 4 (.mv (cI (-1)))])
    (.ret)))
theorem s96_ok : lookF Try.prog 96 = some (s96, 19, [.tmp 4]) := by kernel_rfl
theorem intIdx_ok (l : List Int) (p : Int → Bool) (g : FuncId) (caps : List AV) (hc : ∀ c ∈ caps, AV.Still c) (hp : ∀ x, x ∈ l → Fn P g (valA x :: caps) (boolA (p x))) :
    Fn P 96 [sl l, .clo g caps] (intA (match l.findIdx? p with | some i => (i : Int) | none => -1)) := by
  have h1 := caps_seen hc
  have h2 := caps_bel hc
  (refine fn_look s96_ok (by simp) (by intro k; simp only [go_sem, Nat.reduceEqDiff, ↓reduceIte, reduceCtorEq, Nat.reduceAdd, Nat.reduceMul, Int.reduceToNat, List.reduceReplicate, Nat.reduceLeDiff, Nat.reduceLT, Int.reduceLT, Int.reduceLE, Int.reduceEq]) fun S hS => cwp_sound _ _ _ _ ?_; simp (maxSteps := 900000) (disch := omega) only [s96, go_sem, Nat.reduceEqDiff, ↓reduceIte, reduceCtorEq, Nat.reduceAdd, Nat.reduceMul, Int.reduceToNat, List.reduceReplicate, Nat.reduceLeDiff, Nat.reduceLT, Int.reduceLT, Int.reduceLE, Int.reduceEq])
  repeat' (first | with_reducible refine inw ?_ | simp (maxSteps := 900000) (disch := omega) only [go_sem, Nat.reduceEqDiff, ↓reduceIte, reduceCtorEq, Nat.reduceAdd, Nat.reduceMul, Int.reduceToNat, List.reduceReplicate, Nat.reduceLeDiff, Nat.reduceLT, Int.reduceLT, Int.reduceLE, Int.reduceEq, h1, h2] | with_reducible refine pickB_f ?_ | with_reducible refine giv_intro fun _h => ?_ | with_reducible refine alt_intro ?_ fun _h => ?_ | with_reducible refine pickD_nil ?_ | (with_reducible refine brc (fun _h => ?_) fun _h => ?_) <;> first | (exfalso; omega) | simp only [decide_eq_false _h] | simp only [(_h : (_ : Bool) = _)] | simp only [decide_eq_true _h] | skip)
  (refine loopC hS [0, 1, 7] (by simp only [go_sem, Nat.reduceEqDiff, ↓reduceIte, reduceCtorEq, Nat.reduceAdd, Nat.reduceMul, Int.reduceToNat, List.reduceReplicate, Nat.reduceLeDiff, Nat.reduceLT, Int.reduceLT, Int.reduceLE, Int.reduceEq]; try rfl) (fun (i : Nat) => [(8, intA i)]) (fun (i : Nat) => []) (fun (i : Nat) => i ≤ l.length ∧ l.findIdx? p = ((l.drop i).findIdx? p).map (· + i)) (fun (i : Nat) => l.length - i) (0) ?_ (by intro s; first | (simp only [List.length_cons, List.length_nil]; done) | rfl | (rcases s with ⟨_, _⟩; rfl) | (rcases s with ⟨_, _, _⟩; rfl) | (rcases s with ⟨_, _, _, _⟩; rfl) | (rcases s with ⟨_, _, _, _, _⟩; rfl)) ?_)
  · simp (maxSteps := 900000) (disch := omega) only [go_sem, Nat.reduceEqDiff, ↓reduceIte, reduceCtorEq, Nat.reduceAdd, Nat.reduceMul, Int.reduceToNat, List.reduceReplicate, Nat.reduceLeDiff, Nat.reduceLT, Int.reduceLT, Int.reduceLE, Int.reduceEq]; simp
  rintro i ⟨hi, hI⟩
  replace hi : i ≤ l.length := hi
  replace hI : l.findIdx? p = ((l.drop i).findIdx? p).map (· + i) := hI
  repeat' (first | with_reducible refine inw ?_ | simp (maxSteps := 900000) (disch := omega) only [go_sem, Nat.reduceEqDiff, ↓reduceIte, reduceCtorEq, Nat.reduceAdd, Nat.reduceMul, Int.reduceToNat, List.reduceReplicate, Nat.reduceLeDiff, Nat.reduceLT, Int.reduceLT, Int.reduceLE, Int.reduceEq, h1, h2] | (with_reducible apply call (hp _ (nth_mem (by assumption)))); (focus simp (maxSteps := 900000) (disch := omega) only [go_sem, Nat.reduceEqDiff, ↓reduceIte, reduceCtorEq, Nat.reduceAdd, Nat.reduceMul, Int.reduceToNat, List.reduceReplicate, Nat.reduceLeDiff, Nat.reduceLT, Int.reduceLT, Int.reduceLE, Int.reduceEq, h1, h2] <;> rfl) | with_reducible refine pickB_f ?_ | with_reducible refine giv_intro fun _h => ?_ | with_reducible refine alt_intro ?_ fun _h => ?_ | with_reducible refine pickD_nil ?_ | (with_reducible refine brc (fun _h => ?_) fun _h => ?_) <;> first | (exfalso; omega) | simp only [decide_eq_false _h] | simp only [(_h : (_ : Bool) = _)] | simp only [decide_eq_true _h] | skip)
  · rw [hI, nth_drop (by assumption)]
    simp_all [List.findIdx?_cons]
  · refine ⟨i + 1, ⟨by omega, by omega, ?_⟩, by omega⟩
    rw [hI, nth_drop (by assumption), List.findIdx?_cons]
    simp_all [Function.comp_def, Nat.add_comm, Nat.add_left_comm]
  · rw [hI, List.drop_eq_nil_of_le (by omega)]; rfl
/-- slices.ContainsFunc[[]int,int]: 2 parameters, 0 captured -/
def s83 : SC := .seq (.reg [o1 4 (.mv (cB false))])
  (.seq (.reg [o1 5 (.mv (.t 0)),
    o1 6 (.mv (.t 1)),
    o1 7 (.call (.f 96) [(.t 5), (.t 6)]),
    o1 8 (.bin .geq (.t 7) (cI 0)),
    o1 4 (.mv (.t 8))])
   (.ret))
theorem s83_ok : lookF Try.prog 83 = some (s83, 9, [.tmp 4]) := by kernel_rfl
theorem intAny_ok (l : List Int) (p : Int → Bool) (g : FuncId) (caps : List AV) (hc : ∀ c ∈ caps, AV.Still c) (hp : ∀ x, x ∈ l → Fn P g (valA x :: caps) (boolA (p x))) :
    Fn P 83 [sl l, .clo g caps] (boolA (l.any p)) := by
  have h1 := caps_seen hc
  have h2 := caps_bel hc
  (refine fn_look s83_ok (by simp) (by intro k; simp only [go_sem, Nat.reduceEqDiff, ↓reduceIte, reduceCtorEq, Nat.reduceAdd, Nat.reduceMul, Int.reduceToNat, List.reduceReplicate, Nat.reduceLeDiff, Nat.reduceLT, Int.reduceLT, Int.reduceLE, Int.reduceEq]) fun S hS => cwp_sound _ _ _ _ ?_; simp (maxSteps := 900000) (disch := omega) only [s83, go_sem, Nat.reduceEqDiff, ↓reduceIte, reduceCtorEq, Nat.reduceAdd, Nat.reduceMul, Int.reduceToNat, List.reduceReplicate, Nat.reduceLeDiff, Nat.reduceLT, Int.reduceLT, Int.reduceLE, Int.reduceEq])
  repeat' (first | with_reducible refine inw ?_ | simp (maxSteps := 900000) (disch := omega) only [go_sem, Nat.reduceEqDiff, ↓reduceIte, reduceCtorEq, Nat.reduceAdd, Nat.reduceMul, Int.reduceToNat, List.reduceReplicate, Nat.reduceLeDiff, Nat.reduceLT, Int.reduceLT, Int.reduceLE, Int.reduceEq, h1, h2] | (with_reducible apply call (intIdx_ok l p g caps hc hp)); (focus simp (maxSteps := 900000) (disch := omega) only [go_sem, Nat.reduceEqDiff, ↓reduceIte, reduceCtorEq, Nat.reduceAdd, Nat.reduceMul, Int.reduceToNat, List.reduceReplicate, Nat.reduceLeDiff, Nat.reduceLT, Int.reduceLT, Int.reduceLE, Int.reduceEq, h1, h2] <;> rfl) | with_reducible refine pickB_f ?_ | with_reducible refine giv_intro fun _h => ?_ | with_reducible refine alt_intro ?_ fun _h => ?_ | with_reducible refine pickD_nil ?_ | (with_reducible refine brc (fun _h => ?_) fun _h => ?_) <;> first | (exfalso; omega) | simp only [decide_eq_false _h] | simp only [(_h : (_ : Bool) = _)] | simp only [decide_eq_true _h] | skip)
  exact findIdx_anyG
/-- The symbols between the first and the last one. -/
def midL (s : List Str) : List Str := (s.drop 1).take (s.length - 2)
def patB (p : Pat) : Bool := decide (p.1.length ≠ 0) && decide (p.2.length = p.1.length + 1) && !(p.2.any fun k => decide (k < 0 ∨ 9 < k)) && !((midL p.1).any fun x => decide (edgeS = x))
/-- ablaut/hyph.isPattern: 1 parameters, 0 captured -/
def s47 : SC := .seq (.reg [o1 1 (.box 33 2 (.t 0)),
   o1 2 (.mv (cB false))])
  (.seq (.reg [o1 4 (.faddr 0 (.t 1)),
    o1 5 (.load none (.t 4)),
    o1 6 (.lenL (.t 5)),
    o1 3 (.mv (.t 6))])
   (.seq (.seq (.reg [o1 7 (.mv (.t 3)),
      o1 8 (.bin .eql (.t 7) (cI 0)),
      o1 9 (.mv (.t 8)),
      oF 10 (.faddr 1 (.t 1)) 9,
      oF 11 (.load none (.t 10)) 9,
      oF 12 (.lenL (.t 11)) 9,
      oF 13 (.mv (.t 3)) 9,
      oF 14 (.bin .add (.t 13) (cI 1)) 9,
      oF 15 (.bin .neq (.t 12) (.t 14)) 9,
      o1 16 (.pick (.t 9) (cB true) (.t 15)),
      o1 17 (.mv (.t 16)),
      oF 18 (.faddr 1 (.t 1)) 17,
      oF 19 (.load none (.t 18)) 17,
      oF 20 (.call (.f 83) [(.t 19), (.f 84)]) 17,
      o1 21 (.pick (.t 17) (cB true) (.t 20))])
     (.cond (.t 21) (.seq (.reg [o1 2 (.mv (cB false))])
       (.ret)) (.skip)))
    (.seq (.reg [o1 22 (.mv (.t 3)),
      o1 23 (.bin .lss (.t 22) (cI 3)),
      o1 24 (.mv (.t 23)),
      oF 25 (.faddr 0 (.t 1)) 24,
      oF 26 (.load none (.t 25)) 24,
      oF 27 (.mv (.t 3)) 24,
      oF 28 (.bin .sub (.t 27) (cI 1)) 24,
      oF 29 (.sl 1 (.t 26) (some (cI 1)) (some (.t 28))) 24,
      oF 30 (.call (.f 85) [(.t 29), (.c (.string ⟨#[46]⟩))]) 24,
      oF 31 (.un .not (.t 30)) 24,
      o1 32 (.pick (.t 24) (cB true) (.t 31)),
      o1 2 (.mv (.t 32))])
     (.ret))))
theorem s47_ok : lookF Try.prog 47 = some (s47, 33, [.tmp 2]) := by kernel_rfl
theorem isPat_ok (p : Pat) (hs : p.1.length ≤ 1000) : Fn P 47 [valA p] (boolA (patB p)) := by
  have c1 := intAny_ok p.2 (fun k => decide (k < 0 ∨ 9 < k)) 84 [] (by simp) (fun k _ => isPat1_ok k)
  have c2 := Contains_ok (midL p.1) edgeS
  obtain ⟨s, l⟩ := p
  unfold patB
  dsimp only at *
  by_cases h0 : s.length = 0
  · rw [show decide (s.length ≠ 0) = false by simp [h0]]
    (refine fn_look s47_ok (by simp) (by intro k; simp only [go_sem, Nat.reduceEqDiff, ↓reduceIte, reduceCtorEq, Nat.reduceAdd, Nat.reduceMul, Int.reduceToNat, List.reduceReplicate, Nat.reduceLeDiff, Nat.reduceLT, Int.reduceLT, Int.reduceLE, Int.reduceEq]) fun S hS => cwp_sound _ _ _ _ ?_; simp (maxSteps := 900000) (disch := omega) only [s47, go_sem, Nat.reduceEqDiff, ↓reduceIte, reduceCtorEq, Nat.reduceAdd, Nat.reduceMul, Int.reduceToNat, List.reduceReplicate, Nat.reduceLeDiff, Nat.reduceLT, Int.reduceLT, Int.reduceLE, Int.reduceEq])
    repeat' (first | with_reducible refine inw ?_ | simp (maxSteps := 900000) (disch := omega) only [go_sem, Nat.reduceEqDiff, ↓reduceIte, reduceCtorEq, Nat.reduceAdd, Nat.reduceMul, Int.reduceToNat, List.reduceReplicate, Nat.reduceLeDiff, Nat.reduceLT, Int.reduceLT, Int.reduceLE, Int.reduceEq] | with_reducible refine pickB_f ?_ | with_reducible refine giv_intro fun _h => ?_ | with_reducible refine alt_intro ?_ fun _h => ?_ | with_reducible refine pickD_nil ?_ | (with_reducible refine brc (fun _h => ?_) fun _h => ?_) <;> first | (exfalso; omega) | simp only [decide_eq_false _h] | simp only [(_h : (_ : Bool) = _)] | simp only [decide_eq_true _h] | skip)
    all_goals first | rfl | (exfalso; omega) | simp
  rw [show decide (s.length ≠ 0) = true by simp [h0]]
  by_cases h1 : l.length = s.length + 1
  case neg =>
    rw [decide_eq_false h1]
    (refine fn_look s47_ok (by simp) (by intro k; simp only [go_sem, Nat.reduceEqDiff, ↓reduceIte, reduceCtorEq, Nat.reduceAdd, Nat.reduceMul, Int.reduceToNat, List.reduceReplicate, Nat.reduceLeDiff, Nat.reduceLT, Int.reduceLT, Int.reduceLE, Int.reduceEq]) fun S hS => cwp_sound _ _ _ _ ?_; simp (maxSteps := 900000) (disch := omega) only [s47, go_sem, Nat.reduceEqDiff, ↓reduceIte, reduceCtorEq, Nat.reduceAdd, Nat.reduceMul, Int.reduceToNat, List.reduceReplicate, Nat.reduceLeDiff, Nat.reduceLT, Int.reduceLT, Int.reduceLE, Int.reduceEq])
    repeat' (first | with_reducible refine inw ?_ | simp (maxSteps := 900000) (disch := omega) only [go_sem, Nat.reduceEqDiff, ↓reduceIte, reduceCtorEq, Nat.reduceAdd, Nat.reduceMul, Int.reduceToNat, List.reduceReplicate, Nat.reduceLeDiff, Nat.reduceLT, Int.reduceLT, Int.reduceLE, Int.reduceEq] | with_reducible refine pickB_f ?_ | with_reducible refine giv_intro fun _h => ?_ | with_reducible refine alt_intro ?_ fun _h => ?_ | with_reducible refine pickD_nil ?_ | (with_reducible refine brc (fun _h => ?_) fun _h => ?_) <;> first | (exfalso; omega) | simp only [decide_eq_false _h] | simp only [(_h : (_ : Bool) = _)] | simp only [decide_eq_true _h] | skip)
    all_goals first | rfl | (exfalso; omega) | simp
  case pos =>
    rw [decide_eq_true h1]
    cases h2 : l.any fun k => decide (k < 0 ∨ 9 < k)
    · rw [h2] at c1
      by_cases h3 : s.length < 3
      · have hm : midL s = [] := by rw [midL, show s.length - 2 = if s.length = 2 then 0 else 0 by split <;> omega]; simp
        rw [hm]
        (refine fn_look s47_ok (by simp) (by intro k; simp only [go_sem, Nat.reduceEqDiff, ↓reduceIte, reduceCtorEq, Nat.reduceAdd, Nat.reduceMul, Int.reduceToNat, List.reduceReplicate, Nat.reduceLeDiff, Nat.reduceLT, Int.reduceLT, Int.reduceLE, Int.reduceEq]) fun S hS => cwp_sound _ _ _ _ ?_; simp (maxSteps := 900000) (disch := omega) only [s47, go_sem, Nat.reduceEqDiff, ↓reduceIte, reduceCtorEq, Nat.reduceAdd, Nat.reduceMul, Int.reduceToNat, List.reduceReplicate, Nat.reduceLeDiff, Nat.reduceLT, Int.reduceLT, Int.reduceLE, Int.reduceEq])
        repeat' (first | with_reducible refine inw ?_ | simp (maxSteps := 900000) (disch := omega) only [go_sem, Nat.reduceEqDiff, ↓reduceIte, reduceCtorEq, Nat.reduceAdd, Nat.reduceMul, Int.reduceToNat, List.reduceReplicate, Nat.reduceLeDiff, Nat.reduceLT, Int.reduceLT, Int.reduceLE, Int.reduceEq] | (with_reducible apply call (c1)); (focus simp (maxSteps := 900000) (disch := omega) only [go_sem, Nat.reduceEqDiff, ↓reduceIte, reduceCtorEq, Nat.reduceAdd, Nat.reduceMul, Int.reduceToNat, List.reduceReplicate, Nat.reduceLeDiff, Nat.reduceLT, Int.reduceLT, Int.reduceLE, Int.reduceEq] <;> rfl) | with_reducible refine pickB_f ?_ | with_reducible refine giv_intro fun _h => ?_ | with_reducible refine alt_intro ?_ fun _h => ?_ | with_reducible refine pickD_nil ?_ | (with_reducible refine brc (fun _h => ?_) fun _h => ?_) <;> first | (exfalso; omega) | simp only [decide_eq_false _h] | simp only [(_h : (_ : Bool) = _)] | simp only [decide_eq_true _h] | skip)
        all_goals first | rfl | simp
      · have e1 : ((s.length : Int) - 1).toNat - 1 = s.length - 2 := by omega
        have e2 : List.take (s.length - 2) (List.drop 1 s) = midL s := rfl
        (refine fn_look s47_ok (by simp) (by intro k; simp only [go_sem, Nat.reduceEqDiff, ↓reduceIte, reduceCtorEq, Nat.reduceAdd, Nat.reduceMul, Int.reduceToNat, List.reduceReplicate, Nat.reduceLeDiff, Nat.reduceLT, Int.reduceLT, Int.reduceLE, Int.reduceEq]) fun S hS => cwp_sound _ _ _ _ ?_; simp (maxSteps := 900000) (disch := omega) only [s47, go_sem, Nat.reduceEqDiff, ↓reduceIte, reduceCtorEq, Nat.reduceAdd, Nat.reduceMul, Int.reduceToNat, List.reduceReplicate, Nat.reduceLeDiff, Nat.reduceLT, Int.reduceLT, Int.reduceLE, Int.reduceEq])
        repeat' (first | with_reducible refine inw ?_ | simp (maxSteps := 900000) (disch := omega) only [go_sem, Nat.reduceEqDiff, ↓reduceIte, reduceCtorEq, Nat.reduceAdd, Nat.reduceMul, Int.reduceToNat, List.reduceReplicate, Nat.reduceLeDiff, Nat.reduceLT, Int.reduceLT, Int.reduceLE, Int.reduceEq, e1, e2] | (with_reducible apply call (c1)); (focus simp (maxSteps := 900000) (disch := omega) only [go_sem, Nat.reduceEqDiff, ↓reduceIte, reduceCtorEq, Nat.reduceAdd, Nat.reduceMul, Int.reduceToNat, List.reduceReplicate, Nat.reduceLeDiff, Nat.reduceLT, Int.reduceLT, Int.reduceLE, Int.reduceEq, e1, e2] <;> rfl) | (with_reducible apply call (c2)); (focus simp (maxSteps := 900000) (disch := omega) only [go_sem, Nat.reduceEqDiff, ↓reduceIte, reduceCtorEq, Nat.reduceAdd, Nat.reduceMul, Int.reduceToNat, List.reduceReplicate, Nat.reduceLeDiff, Nat.reduceLT, Int.reduceLT, Int.reduceLE, Int.reduceEq, e1, e2] <;> rfl) | with_reducible refine pickB_f ?_ | with_reducible refine giv_intro fun _h => ?_ | with_reducible refine alt_intro ?_ fun _h => ?_ | with_reducible refine pickD_nil ?_ | (with_reducible refine brc (fun _h => ?_) fun _h => ?_) <;> first | (exfalso; omega) | simp only [decide_eq_false _h] | simp only [(_h : (_ : Bool) = _)] | simp only [decide_eq_true _h] | skip)
        all_goals first | rfl | simp
    · rw [h2] at c1
      (refine fn_look s47_ok (by simp) (by intro k; simp only [go_sem, Nat.reduceEqDiff, ↓reduceIte, reduceCtorEq, Nat.reduceAdd, Nat.reduceMul, Int.reduceToNat, List.reduceReplicate, Nat.reduceLeDiff, Nat.reduceLT, Int.reduceLT, Int.reduceLE, Int.reduceEq]) fun S hS => cwp_sound _ _ _ _ ?_; simp (maxSteps := 900000) (disch := omega) only [s47, go_sem, Nat.reduceEqDiff, ↓reduceIte, reduceCtorEq, Nat.reduceAdd, Nat.reduceMul, Int.reduceToNat, List.reduceReplicate, Nat.reduceLeDiff, Nat.reduceLT, Int.reduceLT, Int.reduceLE, Int.reduceEq])
      repeat' (first | with_reducible refine inw ?_ | simp (maxSteps := 900000) (disch := omega) only [go_sem, Nat.reduceEqDiff, ↓reduceIte, reduceCtorEq, Nat.reduceAdd, Nat.reduceMul, Int.reduceToNat, List.reduceReplicate, Nat.reduceLeDiff, Nat.reduceLT, Int.reduceLT, Int.reduceLE, Int.reduceEq] | (with_reducible apply call (c1)); (focus simp (maxSteps := 900000) (disch := omega) only [go_sem, Nat.reduceEqDiff, ↓reduceIte, reduceCtorEq, Nat.reduceAdd, Nat.reduceMul, Int.reduceToNat, List.reduceReplicate, Nat.reduceLeDiff, Nat.reduceLT, Int.reduceLT, Int.reduceLE, Int.reduceEq] <;> rfl) | with_reducible refine pickB_f ?_ | with_reducible refine giv_intro fun _h => ?_ | with_reducible refine alt_intro ?_ fun _h => ?_ | with_reducible refine pickD_nil ?_ | (with_reducible refine brc (fun _h => ?_) fun _h => ?_) <;> first | (exfalso; omega) | simp only [decide_eq_false _h] | simp only [(_h : (_ : Bool) = _)] | simp only [decide_eq_true _h] | skip)
      all_goals first | rfl | simp
def bookW (h : Book) : List (List Str) := h.2.2.1.map (·.1) ++ (h.2.2.2.1.map (·.1) ++ h.2.2.2.2.flatMap fun t => [t.1, t.2.1, t.2.2.1])
theorem flatMap_len3 (l : List Trn) : (l.flatMap fun t => [t.1, t.2.1, t.2.2.1]).length = l.length * 3 := by
  induction l with
  | nil => rfl
  | cons t l ih => rw [List.flatMap_cons, List.length_append, ih, List.length_cons]; simp; omega
/-- ablaut/hyph.words: 1 parameters, 0 captured -/
def s45 : SC := .seq (.reg [o1 1 (.box 37 5 (.t 0)),
   o1 2 (.mv (.c (.slice none 0 0)))])
  (.seq (.reg [o1 3 (.mv (.c (.slice none 0 0)))])
   (.seq (.seq (.reg [o1 10 (.faddr 2 (.t 1)),
      o1 11 (.load none (.t 10)),
      o1 12 (.lenL (.t 11)),
      o1 13 (.mv (cI 0))])
     (.block 0 (.loop (.seq (.reg [o1 14 (.bin .lss (.t 13) (.t 12))])
        (.seq (.cond (.t 14) (.skip) (.exit 0))
         (.seq (.block 1 (.seq (.reg [o1 15 (.iaddr 2 (.t 11) (.t 13)),
             o1 16 (.load (some 2) (.t 15)),
             o1 5 (.alloc 33 2 [(.slice none 0 0), (.slice none 0 0)]),
             o0 (.store 2 (.t 5) (.t 16))])
            (.reg [o1 17 (.mv (.t 3)),
             o1 18 (.faddr 0 (.t 5)),
             o1 19 (.load none (.t 18)),
             o1 20 (.buildSl 22 1 1 [(.slice none 0 0)] [(0, 1, (.t 19))]),
             o1 21 (.app 22 1 24 (.t 17) (.t 20)),
             o1 3 (.mv (.t 21))])))
          (.reg [o1 22 (.bin .add (.t 13) (cI 1)),
           o1 13 (.mv (.t 22))])))))))
    (.seq (.seq (.reg [o1 23 (.faddr 3 (.t 1)),
       o1 24 (.load none (.t 23)),
       o1 25 (.lenL (.t 24)),
       o1 26 (.mv (cI 0))])
      (.block 2 (.loop (.seq (.reg [o1 27 (.bin .lss (.t 26) (.t 25))])
         (.seq (.cond (.t 27) (.skip) (.exit 2))
          (.seq (.block 3 (.seq (.reg [o1 28 (.iaddr 2 (.t 24) (.t 26)),
              o1 29 (.load (some 2) (.t 28)),
              o1 7 (.alloc 25 2 [(.slice none 0 0), (.slice none 0 0)]),
              o0 (.store 2 (.t 7) (.t 29))])
             (.reg [o1 30 (.mv (.t 3)),
              o1 31 (.faddr 0 (.t 7)),
              o1 32 (.load none (.t 31)),
              o1 33 (.buildSl 22 1 1 [(.slice none 0 0)] [(0, 1, (.t 32))]),
              o1 34 (.app 22 1 24 (.t 30) (.t 33)),
              o1 3 (.mv (.t 34))])))
           (.reg [o1 35 (.bin .add (.t 26) (cI 1)),
            o1 26 (.mv (.t 35))])))))))
     (.seq (.seq (.reg [o1 36 (.faddr 4 (.t 1)),
        o1 37 (.load none (.t 36)),
        o1 38 (.lenL (.t 37)),
        o1 39 (.mv (cI 0))])
       (.block 4 (.loop (.seq (.reg [o1 40 (.bin .lss (.t 39) (.t 38))])
          (.seq (.cond (.t 40) (.skip) (.exit 4))
           (.seq (.block 5 (.seq (.reg [o1 41 (.iaddr 4 (.t 37) (.t 39)),
               o1 42 (.load (some 4) (.t 41)),
               o1 9 (.alloc 66 4 [(.slice none 0 0), (.slice none 0 0), (.slice none 0 0), (.int .i64 0)]),
               o0 (.store 4 (.t 9) (.t 42))])
              (.reg [o1 43 (.mv (.t 3)),
               o1 44 (.faddr 0 (.t 9)),
               o1 45 (.load none (.t 44)),
               o1 46 (.faddr 1 (.t 9)),
               o1 47 (.load none (.t 46)),
               o1 48 (.faddr 2 (.t 9)),
               o1 49 (.load none (.t 48)),
               o1 50 (.buildSl 22 1 3 [(.slice none 0 0)] [(0, 1, (.t 45)), (1, 1, (.t 47)), (2, 1, (.t 49))]),
               o1 51 (.app 22 1 24 (.t 43) (.t 50)),
               o1 3 (.mv (.t 51))])))
            (.reg [o1 52 (.bin .add (.t 39) (cI 1)),
             o1 39 (.mv (.t 52))])))))))
      (.seq (.reg [o1 53 (.mv (.t 3)),
        o1 2 (.mv (.t 53))])
       (.ret))))))
theorem s45_ok : lookF Try.prog 45 = some (s45, 54, [.tmp 2]) := by kernel_rfl
theorem words_ok (h : Book) (b1 : h.2.2.1.length ≤ 1000) (b2 : h.2.2.2.1.length ≤ 1000) (b3 : h.2.2.2.2.length ≤ 1000) : Fn P 45 [bkA h] (sl (bookW h)) := by
  obtain ⟨lf, rt, ps, xs, ts⟩ := h
  unfold bookW
  dsimp only at *
  (refine fn_look s45_ok (by simp) (by intro k; simp only [go_sem, Nat.reduceEqDiff, ↓reduceIte, reduceCtorEq, Nat.reduceAdd, Nat.reduceMul, Int.reduceToNat, List.reduceReplicate, Nat.reduceLeDiff, Nat.reduceLT, Int.reduceLT, Int.reduceLE, Int.reduceEq]) fun S hS => cwp_sound _ _ _ _ ?_; simp (maxSteps := 900000) (disch := omega) only [s45, go_sem, Nat.reduceEqDiff, ↓reduceIte, reduceCtorEq, Nat.reduceAdd, Nat.reduceMul, Int.reduceToNat, List.reduceReplicate, Nat.reduceLeDiff, Nat.reduceLT, Int.reduceLT, Int.reduceLE, Int.reduceEq])
  repeat' (first | with_reducible refine inw ?_ | simp (maxSteps := 900000) (disch := omega) only [go_sem, Nat.reduceEqDiff, ↓reduceIte, reduceCtorEq, Nat.reduceAdd, Nat.reduceMul, Int.reduceToNat, List.reduceReplicate, Nat.reduceLeDiff, Nat.reduceLT, Int.reduceLT, Int.reduceLE, Int.reduceEq] | with_reducible refine pickB_f ?_ | with_reducible refine giv_intro fun _h => ?_ | with_reducible refine alt_intro ?_ fun _h => ?_ | with_reducible refine pickD_nil ?_ | (with_reducible refine brc (fun _h => ?_) fun _h => ?_) <;> first | (exfalso; omega) | simp only [decide_eq_false _h] | simp only [(_h : (_ : Bool) = _)] | simp only [decide_eq_true _h] | skip)
  refine nil_row 3 22 1 (by simp (maxSteps := 900000) (disch := omega) only [go_sem, Nat.reduceEqDiff, ↓reduceIte, reduceCtorEq, Nat.reduceAdd, Nat.reduceMul, Int.reduceToNat, List.reduceReplicate, Nat.reduceLeDiff, Nat.reduceLT, Int.reduceLT, Int.reduceLE, Int.reduceEq]) ?_
  simp only [List.cons_append, List.nil_append, List.length_cons, List.length_nil, Nat.zero_add, Nat.reduceAdd]
  (refine loopC hS [1, 11, 12] (by simp only [go_sem, Nat.reduceEqDiff, ↓reduceIte, reduceCtorEq, Nat.reduceAdd, Nat.reduceMul, Int.reduceToNat, List.reduceReplicate, Nat.reduceLeDiff, Nat.reduceLT, Int.reduceLT, Int.reduceLE, Int.reduceEq]; try rfl) (fun (i : Nat) => [(3, own S 1 ((ps.take i).map (·.1))), (13, intA i)]) (fun (i : Nat) => [some (.row 37 5 [intA lf, intA rt, sl ps, sl xs, sl ts]), rowO 22 ((ps.take i).map (·.1))]) (fun (i : Nat) => i ≤ ps.length) (fun (i : Nat) => ps.length - i) (0) ?_ (by intro s; first | (simp only [List.length_cons, List.length_nil]; done) | rfl | (rcases s with ⟨_, _⟩; rfl) | (rcases s with ⟨_, _, _⟩; rfl) | (rcases s with ⟨_, _, _, _⟩; rfl) | (rcases s with ⟨_, _, _, _, _⟩; rfl)) ?_)
  · simp (maxSteps := 900000) (disch := omega) only [go_sem, Nat.reduceEqDiff, ↓reduceIte, reduceCtorEq, Nat.reduceAdd, Nat.reduceMul, Int.reduceToNat, List.reduceReplicate, Nat.reduceLeDiff, Nat.reduceLT, Int.reduceLT, Int.reduceLE, Int.reduceEq]
    exact Nat.zero_le _
  rintro i hi
  replace hi : i ≤ ps.length := hi
  by_cases hil : i < ps.length
  · have hst : (ps.take (i + 1)).map (·.1) = (ps.take i).map (·.1) ++ [(nth ps i).1] := by rw [List.take_add_one, nth_get? hil]; simp
    have hln : ((ps.take i).map (·.1)).length = i := by rw [List.length_map, List.length_take]; omega
    have eC : ((cellsL ps).drop (i * 2)).take 2 = [sl (nth ps i).1, sl (nth ps i).2] := by rw [cellsL_drop, nth_drop hil]; rfl
    have z1 : zcells [Value.slice none 0 0] 1 = [.sc (.slice none 0 0)] := rfl
    generalize hA : (ps.take i).map (·.1) = A at *
    repeat' (first | with_reducible refine inw ?_ | simp (maxSteps := 900000) (disch := omega) only [go_sem, Nat.reduceEqDiff, ↓reduceIte, reduceCtorEq, Nat.reduceAdd, Nat.reduceMul, Int.reduceToNat, List.reduceReplicate, Nat.reduceLeDiff, Nat.reduceLT, Int.reduceLT, Int.reduceLE, Int.reduceEq, eC, z1] | with_reducible refine pickB_f ?_ | with_reducible refine giv_intro fun _h => ?_ | with_reducible refine alt_intro ?_ fun _h => ?_ | with_reducible refine pickD_nil ?_ | (with_reducible refine brc (fun _h => ?_) fun _h => ?_) <;> first | (exfalso; omega) | simp only [decide_eq_false _h] | simp only [(_h : (_ : Bool) = _)] | simp only [decide_eq_true _h] | skip)
    refine ⟨i + 1, ⟨by omega, by omega⟩, ⟨⟨by rw [List.length_take]; omega, by rw [List.length_take]; omega⟩, by omega⟩, by rw [hst]⟩
  obtain rfl : i = ps.length := by omega
  rw [List.take_length]
  have hPl : (ps.map (·.1)).length = ps.length := List.length_map ..
  generalize ps.map (·.1) = A at *
  repeat' (first | with_reducible refine inw ?_ | simp (maxSteps := 900000) (disch := omega) only [go_sem, Nat.reduceEqDiff, ↓reduceIte, reduceCtorEq, Nat.reduceAdd, Nat.reduceMul, Int.reduceToNat, List.reduceReplicate, Nat.reduceLeDiff, Nat.reduceLT, Int.reduceLT, Int.reduceLE, Int.reduceEq] | with_reducible refine pickB_f ?_ | with_reducible refine giv_intro fun _h => ?_ | with_reducible refine alt_intro ?_ fun _h => ?_ | with_reducible refine pickD_nil ?_ | (with_reducible refine brc (fun _h => ?_) fun _h => ?_) <;> first | (exfalso; omega) | simp only [decide_eq_false _h] | simp only [(_h : (_ : Bool) = _)] | simp only [decide_eq_true _h] | skip)
  (refine loopC hS [1, 24, 25] (by simp only [go_sem, Nat.reduceEqDiff, ↓reduceIte, reduceCtorEq, Nat.reduceAdd, Nat.reduceMul, Int.reduceToNat, List.reduceReplicate, Nat.reduceLeDiff, Nat.reduceLT, Int.reduceLT, Int.reduceLE, Int.reduceEq]; try rfl) (fun (i : Nat) => [(3, own S 1 (A ++ (xs.take i).map (·.1))), (26, intA i)]) (fun (i : Nat) => [some (.row 37 5 [intA lf, intA rt, sl ps, sl xs, sl ts]), rowO 22 (A ++ (xs.take i).map (·.1))]) (fun (i : Nat) => i ≤ xs.length) (fun (i : Nat) => xs.length - i) (0) ?_ (by intro s; first | (simp only [List.length_cons, List.length_nil]; done) | rfl | (rcases s with ⟨_, _⟩; rfl) | (rcases s with ⟨_, _, _⟩; rfl) | (rcases s with ⟨_, _, _, _⟩; rfl) | (rcases s with ⟨_, _, _, _, _⟩; rfl)) ?_)
  · simp (maxSteps := 900000) (disch := omega) only [go_sem, Nat.reduceEqDiff, ↓reduceIte, reduceCtorEq, Nat.reduceAdd, Nat.reduceMul, Int.reduceToNat, List.reduceReplicate, Nat.reduceLeDiff, Nat.reduceLT, Int.reduceLT, Int.reduceLE, Int.reduceEq]
    exact Nat.zero_le _
  rintro i hi
  replace hi : i ≤ xs.length := hi
  by_cases hil : i < xs.length
  · have hst : A ++ (xs.take (i + 1)).map (·.1) = A ++ (xs.take i).map (·.1) ++ [(nth xs i).1] := by rw [List.take_add_one, nth_get? hil]; simp
    have hln : (A ++ (xs.take i).map (·.1)).length = ps.length + i := by rw [List.length_append, List.length_map, List.length_take]; omega
    have eC : ((cellsL xs).drop (i * 2)).take 2 = [sl (nth xs i).1, sl (nth xs i).2] := by rw [cellsL_drop, nth_drop hil]; rfl
    have z1 : zcells [Value.slice none 0 0] 1 = [.sc (.slice none 0 0)] := rfl
    generalize hB : A ++ (xs.take i).map (·.1) = B at *
    repeat' (first | with_reducible refine inw ?_ | simp (maxSteps := 900000) (disch := omega) only [go_sem, Nat.reduceEqDiff, ↓reduceIte, reduceCtorEq, Nat.reduceAdd, Nat.reduceMul, Int.reduceToNat, List.reduceReplicate, Nat.reduceLeDiff, Nat.reduceLT, Int.reduceLT, Int.reduceLE, Int.reduceEq, eC, z1] | with_reducible refine pickB_f ?_ | with_reducible refine giv_intro fun _h => ?_ | with_reducible refine alt_intro ?_ fun _h => ?_ | with_reducible refine pickD_nil ?_ | (with_reducible refine brc (fun _h => ?_) fun _h => ?_) <;> first | (exfalso; omega) | simp only [decide_eq_false _h] | simp only [(_h : (_ : Bool) = _)] | simp only [decide_eq_true _h] | skip)
    have hl2 : (A ++ (xs.take (i + 1)).map (·.1)).length = B.length + 1 := by rw [hst, List.length_append, List.length_singleton]
    refine ⟨i + 1, ⟨by omega, by omega⟩, ⟨⟨hl2.symm, hl2.symm⟩, by omega⟩, by rw [hst]⟩
  obtain rfl : i = xs.length := by omega
  rw [List.take_length]
  have hXl : (A ++ xs.map (·.1)).length = ps.length + xs.length := by rw [List.length_append, List.length_map]; omega
  rw [← List.append_assoc]
  generalize A ++ xs.map (·.1) = A at *
  repeat' (first | with_reducible refine inw ?_ | simp (maxSteps := 900000) (disch := omega) only [go_sem, Nat.reduceEqDiff, ↓reduceIte, reduceCtorEq, Nat.reduceAdd, Nat.reduceMul, Int.reduceToNat, List.reduceReplicate, Nat.reduceLeDiff, Nat.reduceLT, Int.reduceLT, Int.reduceLE, Int.reduceEq] | with_reducible refine pickB_f ?_ | with_reducible refine giv_intro fun _h => ?_ | with_reducible refine alt_intro ?_ fun _h => ?_ | with_reducible refine pickD_nil ?_ | (with_reducible refine brc (fun _h => ?_) fun _h => ?_) <;> first | (exfalso; omega) | simp only [decide_eq_false _h] | simp only [(_h : (_ : Bool) = _)] | simp only [decide_eq_true _h] | skip)
  (refine loopC hS [37, 38] (by simp only [go_sem, Nat.reduceEqDiff, ↓reduceIte, reduceCtorEq, Nat.reduceAdd, Nat.reduceMul, Int.reduceToNat, List.reduceReplicate, Nat.reduceLeDiff, Nat.reduceLT, Int.reduceLT, Int.reduceLE, Int.reduceEq]; try rfl) (fun (i : Nat) => [(3, own S 1 (A ++ (ts.take i).flatMap fun t => [t.1, t.2.1, t.2.2.1])), (39, intA i)]) (fun (i : Nat) => [none, rowO 22 (A ++ (ts.take i).flatMap fun t => [t.1, t.2.1, t.2.2.1])]) (fun (i : Nat) => i ≤ ts.length) (fun (i : Nat) => ts.length - i) (0) ?_ (by intro s; first | (simp only [List.length_cons, List.length_nil]; done) | rfl | (rcases s with ⟨_, _⟩; rfl) | (rcases s with ⟨_, _, _⟩; rfl) | (rcases s with ⟨_, _, _, _⟩; rfl) | (rcases s with ⟨_, _, _, _, _⟩; rfl)) ?_)
  · simp (maxSteps := 900000) (disch := omega) only [go_sem, Nat.reduceEqDiff, ↓reduceIte, reduceCtorEq, Nat.reduceAdd, Nat.reduceMul, Int.reduceToNat, List.reduceReplicate, Nat.reduceLeDiff, Nat.reduceLT, Int.reduceLT, Int.reduceLE, Int.reduceEq]
    rw [List.flatMap_nil, List.append_nil]
    exact ⟨Nat.zero_le _, ⟨rfl, rfl⟩, rfl⟩
  rintro i hi
  replace hi : i ≤ ts.length := hi
  have hfl : ((ts.take i).flatMap fun t => [t.1, t.2.1, t.2.2.1]).length = i * 3 := by
    rw [flatMap_len3, List.length_take]; omega
  by_cases hil : i < ts.length
  · have hst : A ++ ((ts.take (i + 1)).flatMap fun t => [t.1, t.2.1, t.2.2.1]) = A ++ ((ts.take i).flatMap fun t => [t.1, t.2.1, t.2.2.1]) ++ [(nth ts i).1, (nth ts i).2.1, (nth ts i).2.2.1] := by rw [List.take_add_one, nth_get? hil]; simp
    have hln : (A ++ ((ts.take i).flatMap fun t => [t.1, t.2.1, t.2.2.1])).length = ps.length + xs.length + i * 3 := by rw [List.length_append, hfl]; omega
    have eC : ((cellsL ts).drop (i * 4)).take 4 = [sl (nth ts i).1, sl (nth ts i).2.1, sl (nth ts i).2.2.1, intA (nth ts i).2.2.2] := by rw [cellsL_drop, nth_drop hil]; rfl
    have z3 : zcells [Value.slice none 0 0] 3 = [.sc (.slice none 0 0), .sc (.slice none 0 0), .sc (.slice none 0 0)] := rfl
    generalize hB : (A ++ (ts.take i).flatMap fun t => [t.1, t.2.1, t.2.2.1]) = B at *
    repeat' (first | with_reducible refine inw ?_ | simp (maxSteps := 900000) (disch := omega) only [go_sem, Nat.reduceEqDiff, ↓reduceIte, reduceCtorEq, Nat.reduceAdd, Nat.reduceMul, Int.reduceToNat, List.reduceReplicate, Nat.reduceLeDiff, Nat.reduceLT, Int.reduceLT, Int.reduceLE, Int.reduceEq, eC, z3] | with_reducible refine pickB_f ?_ | with_reducible refine giv_intro fun _h => ?_ | with_reducible refine alt_intro ?_ fun _h => ?_ | with_reducible refine pickD_nil ?_ | (with_reducible refine brc (fun _h => ?_) fun _h => ?_) <;> first | (exfalso; omega) | simp only [decide_eq_false _h] | simp only [(_h : (_ : Bool) = _)] | simp only [decide_eq_true _h] | skip)
    have hl2 : (A ++ (ts.take (i + 1)).flatMap fun t => [t.1, t.2.1, t.2.2.1]).length = B.length + 3 := by rw [hst, List.length_append]; rfl
    refine ⟨i + 1, ⟨by omega, by omega⟩, ⟨⟨hl2.symm, hl2.symm⟩, by omega⟩, ?_⟩
    rw [hst, ← cellsL_app]; rfl
  obtain rfl : i = ts.length := by omega
  rw [List.take_length]
  repeat' (first | with_reducible refine inw ?_ | simp (maxSteps := 900000) (disch := omega) only [go_sem, Nat.reduceEqDiff, ↓reduceIte, reduceCtorEq, Nat.reduceAdd, Nat.reduceMul, Int.reduceToNat, List.reduceReplicate, Nat.reduceLeDiff, Nat.reduceLT, Int.reduceLT, Int.reduceLE, Int.reduceEq] | with_reducible refine pickB_f ?_ | with_reducible refine giv_intro fun _h => ?_ | with_reducible refine alt_intro ?_ fun _h => ?_ | with_reducible refine pickD_nil ?_ | (with_reducible refine brc (fun _h => ?_) fun _h => ?_) <;> first | (exfalso; omega) | simp only [decide_eq_false _h] | simp only [(_h : (_ : Bool) = _)] | simp only [decide_eq_true _h] | skip)
  all_goals skip
theorem cells2_0 {l : List (List Str × List Int)} {i : Nat} (h : i < l.length) : (cellsL l)[i * 2]? = some (sl (nth l i).1) := by
  have h1 := cellsL_drop l i
  rw [nth_drop h] at h1
  have h2 := congrArg (fun x : List AV => x[0]?) h1
  simp only [List.getElem?_drop, Nat.add_zero] at h2
  rw [h2]; rfl
def patsI (ps : List Pat) (i : Nat) : Bool := patB (nth ps i) && (decide (i = 0) || decide (orderL (nth ps (i - 1)).1 (nth ps i).1 < 0))
def brksI (xs : List Brk) (i : Nat) : Bool := placesB (nth xs i).2 (nth xs i).1.length && (decide (i = 0) || decide (orderL (nth xs (i - 1)).1 (nth xs i).1 < 0))
def trnB (t : Trn) : Bool := decide (0 < t.1.length) && decide (1 ≤ t.2.2.2) && decide (t.2.2.2 < (t.1.length : Int))
def edgB (h : Book) : Bool := decide (1 ≤ h.1) && decide (h.1 ≤ 60) && decide (1 ≤ h.2.1) && decide (h.2.1 ≤ 60)
def bookB (h : Book) : Bool := edgB h && (List.range h.2.2.1.length).all (patsI h.2.2.1) && (List.range h.2.2.2.1.length).all (brksI h.2.2.2.1) && (List.range h.2.2.2.2.length).all fun i => trnB (nth h.2.2.2.2 i)
def vErr (h : Book) : Int := if 300 < h.2.2.1.length ∨ 300 < h.2.2.2.1.length ∨ 24 < h.2.2.2.2.length then 3 else if wordsErr (bookW h) ≠ 0 then wordsErr (bookW h) else if bookB h = true then 0 else 1
theorem wordsErr_mem : ∀ {l : List (List Str)}, wordsErr l = 0 → ∀ w ∈ l, wordErr w = 0
  | [], _, w, hw => by cases hw
  | x :: l, h, w, hw => by
    unfold wordsErr at h
    split at h
    · rename_i q; exact absurd h q
    · rcases List.mem_cons.1 hw with rfl | hw
      · omega
      · exact wordsErr_mem h w hw
theorem wordErr_len {l : List Str} (hl : wordErr l = 0) : l.length ≤ 60 := by
  unfold wordErr at hl
  split at hl
  · cases hl
  · omega
/-- ablaut/hyph.Validate: 1 parameters, 0 captured -/
def s21 : SC := .seq (.reg [o1 1 (.box 37 5 (.t 0)),
   o1 2 (.mv (cI 0))])
  (.seq (.seq (.reg [o1 13 (.faddr 2 (.t 1)),
     o1 14 (.load none (.t 13)),
     o1 15 (.lenL (.t 14)),
     o1 16 (.bin .gtr (.t 15) (cI 300)),
     o1 17 (.mv (.t 16)),
     oF 18 (.faddr 3 (.t 1)) 17,
     oF 19 (.load none (.t 18)) 17,
     oF 20 (.lenL (.t 19)) 17,
     oF 21 (.bin .gtr (.t 20) (cI 300)) 17,
     o1 22 (.pick (.t 17) (cB true) (.t 21)),
     o1 23 (.mv (.t 22)),
     oF 24 (.faddr 4 (.t 1)) 23,
     oF 25 (.load none (.t 24)) 23,
     oF 26 (.lenL (.t 25)) 23,
     oF 27 (.bin .gtr (.t 26) (cI 24)) 23,
     o1 28 (.pick (.t 23) (cB true) (.t 27))])
    (.cond (.t 28) (.seq (.reg [o1 2 (.mv (cI 3))])
      (.ret)) (.skip)))
   (.seq (.seq (.reg [o1 29 (.load (some 5) (.t 1)),
      o1 30 (.call (.f 45) [(.t 29)]),
      o1 31 (.lenL (.t 30)),
      o1 32 (.mv (cI 0))])
     (.block 0 (.loop (.seq (.reg [o1 33 (.bin .lss (.t 32) (.t 31))])
        (.seq (.cond (.t 33) (.skip) (.exit 0))
         (.seq (.block 1 (.seq (.reg [o1 34 (.iaddr 1 (.t 30) (.t 32)),
             o1 35 (.load none (.t 34)),
             o1 4 (.mv (.t 35))])
            (.seq (.reg [o1 36 (.mv (.t 4)),
              o1 37 (.call (.f 46) [(.t 36)]),
              o1 5 (.mv (.t 37))])
             (.seq (.reg [o1 38 (.mv (.t 5)),
               o1 39 (.bin .neq (.t 38) (cI 0))])
              (.cond (.t 39) (.seq (.reg [o1 40 (.mv (.t 5)),
                 o1 2 (.mv (.t 40))])
                (.ret)) (.skip))))))
          (.reg [o1 41 (.bin .add (.t 32) (cI 1)),
           o1 32 (.mv (.t 41))])))))))
    (.seq (.reg [o1 42 (.faddr 0 (.t 1)),
      o1 43 (.load none (.t 42)),
      o1 44 (.bin .geq (.t 43) (cI 1)),
      o1 45 (.mv (.t 44)),
      oT 46 (.faddr 0 (.t 1)) 45,
      oT 47 (.load none (.t 46)) 45,
      oT 48 (.bin .leq (.t 47) (cI 60)) 45,
      o1 49 (.pick (.t 45) (.t 48) (cB false)),
      o1 50 (.mv (.t 49)),
      oT 51 (.faddr 1 (.t 1)) 50,
      oT 52 (.load none (.t 51)) 50,
      oT 53 (.bin .geq (.t 52) (cI 1)) 50,
      o1 54 (.pick (.t 50) (.t 53) (cB false)),
      o1 55 (.mv (.t 54)),
      oT 56 (.faddr 1 (.t 1)) 55,
      oT 57 (.load none (.t 56)) 55,
      oT 58 (.bin .leq (.t 57) (cI 60)) 55,
      o1 59 (.pick (.t 55) (.t 58) (cB false)),
      o1 6 (.mv (.t 59))])
     (.seq (.seq (.reg [o1 60 (.faddr 2 (.t 1)),
        o1 61 (.load none (.t 60)),
        o1 62 (.lenL (.t 61)),
        o1 63 (.mv (cI 0))])
       (.block 2 (.loop (.seq (.reg [o1 64 (.bin .lss (.t 63) (.t 62))])
          (.seq (.cond (.t 64) (.skip) (.exit 2))
           (.seq (.block 3 (.seq (.reg [o1 65 (.mv (.t 63)),
               o1 66 (.iaddr 2 (.t 61) (.t 63)),
               o1 67 (.load (some 2) (.t 66)),
               o1 8 (.alloc 33 2 [(.slice none 0 0), (.slice none 0 0)]),
               o1 7 (.mv (.t 65)),
               o0 (.store 2 (.t 8) (.t 67))])
              (.regC [(false, o1 68 (.mv (.t 6))),
               (false, o1 69 (.mv (.t 68))),
               (false, oT 70 (.load (some 2) (.t 8)) 69),
               (true, oT 71 (.call (.f 47) [(.t 70)]) 69),
               (false, o1 72 (.pick (.t 69) (.t 71) (cB false))),
               (false, o1 73 (.mv (.t 72))),
               (false, oT 74 (.mv (.t 7)) 73),
               (false, oT 75 (.bin .eql (.t 74) (cI 0)) 73),
               (false, oT 76 (.mv (.t 75)) 73),
               (false, oF 77 (.faddr 2 (.t 1)) 76),
               (false, oF 78 (.load none (.t 77)) 76),
               (false, oF 79 (.mv (.t 7)) 76),
               (false, oF 80 (.bin .sub (.t 79) (cI 1)) 76),
               (false, oF 81 (.iaddr 2 (.t 78) (.t 80)) 76),
               (false, oF 82 (.faddr 0 (.t 81)) 76),
               (false, oF 83 (.load none (.t 82)) 76),
               (false, oF 84 (.faddr 0 (.t 8)) 76),
               (false, oF 85 (.load none (.t 84)) 76),
               (true, oF 86 (.call (.f 48) [(.t 83), (.t 85)]) 76),
               (false, oF 87 (.bin .lss (.t 86) (cI 0)) 76),
               (false, oT 88 (.pick (.t 76) (cB true) (.t 87)) 73),
               (false, o1 89 (.pick (.t 73) (.t 88) (cB false))),
               (false, o1 6 (.mv (.t 89)))])))
            (.reg [o1 90 (.bin .add (.t 63) (cI 1)),
             o1 63 (.mv (.t 90))])))))))
      (.seq (.seq (.reg [o1 91 (.faddr 3 (.t 1)),
         o1 92 (.load none (.t 91)),
         o1 93 (.lenL (.t 92)),
         o1 94 (.mv (cI 0))])
        (.block 4 (.loop (.seq (.reg [o1 95 (.bin .lss (.t 94) (.t 93))])
           (.seq (.cond (.t 95) (.skip) (.exit 4))
            (.seq (.block 5 (.seq (.reg [o1 96 (.mv (.t 94)),
                o1 97 (.iaddr 2 (.t 92) (.t 94)),
                o1 98 (.load (some 2) (.t 97)),
                o1 10 (.alloc 25 2 [(.slice none 0 0), (.slice none 0 0)]),
                o1 9 (.mv (.t 96)),
                o0 (.store 2 (.t 10) (.t 98))])
               (.regC [(false, o1 99 (.mv (.t 6))),
                (false, o1 100 (.mv (.t 99))),
                (false, oT 101 (.faddr 1 (.t 10)) 100),
                (false, oT 102 (.load none (.t 101)) 100),
                (false, oT 103 (.faddr 0 (.t 10)) 100),
                (false, oT 104 (.load none (.t 103)) 100),
                (false, oT 105 (.lenL (.t 104)) 100),
                (true, oT 106 (.call (.f 49) [(.t 102), (.t 105)]) 100),
                (false, o1 107 (.pick (.t 100) (.t 106) (cB false))),
                (false, o1 108 (.mv (.t 107))),
                (false, oT 109 (.mv (.t 9)) 108),
                (false, oT 110 (.bin .eql (.t 109) (cI 0)) 108),
                (false, oT 111 (.mv (.t 110)) 108),
                (false, oF 112 (.faddr 3 (.t 1)) 111),
                (false, oF 113 (.load none (.t 112)) 111),
                (false, oF 114 (.mv (.t 9)) 111),
                (false, oF 115 (.bin .sub (.t 114) (cI 1)) 111),
                (false, oF 116 (.iaddr 2 (.t 113) (.t 115)) 111),
                (false, oF 117 (.faddr 0 (.t 116)) 111),
                (false, oF 118 (.load none (.t 117)) 111),
                (false, oF 119 (.faddr 0 (.t 10)) 111),
                (false, oF 120 (.load none (.t 119)) 111),
                (true, oF 121 (.call (.f 48) [(.t 118), (.t 120)]) 111),
                (false, oF 122 (.bin .lss (.t 121) (cI 0)) 111),
                (false, oT 123 (.pick (.t 111) (cB true) (.t 122)) 108),
                (false, o1 124 (.pick (.t 108) (.t 123) (cB false))),
                (false, o1 6 (.mv (.t 124)))])))
             (.reg [o1 125 (.bin .add (.t 94) (cI 1)),
              o1 94 (.mv (.t 125))])))))))
       (.seq (.seq (.reg [o1 126 (.faddr 4 (.t 1)),
          o1 127 (.load none (.t 126)),
          o1 128 (.lenL (.t 127)),
          o1 129 (.mv (cI 0))])
         (.block 6 (.loop (.seq (.reg [o1 130 (.bin .lss (.t 129) (.t 128))])
            (.seq (.cond (.t 130) (.skip) (.exit 6))
             (.seq (.block 7 (.seq (.reg [o1 131 (.iaddr 4 (.t 127) (.t 129)),
                 o1 132 (.load (some 4) (.t 131)),
                 o1 12 (.alloc 66 4 [(.slice none 0 0), (.slice none 0 0), (.slice none 0 0), (.int .i64 0)]),
                 o0 (.store 4 (.t 12) (.t 132))])
                (.reg [o1 133 (.mv (.t 6)),
                 o1 134 (.mv (.t 133)),
                 oT 135 (.faddr 0 (.t 12)) 134,
                 oT 136 (.load none (.t 135)) 134,
                 oT 137 (.lenL (.t 136)) 134,
                 oT 138 (.bin .gtr (.t 137) (cI 0)) 134,
                 o1 139 (.pick (.t 134) (.t 138) (cB false)),
                 o1 140 (.mv (.t 139)),
                 oT 141 (.faddr 3 (.t 12)) 140,
                 oT 142 (.load none (.t 141)) 140,
                 oT 143 (.bin .geq (.t 142) (cI 1)) 140,
                 o1 144 (.pick (.t 140) (.t 143) (cB false)),
                 o1 145 (.mv (.t 144)),
                 oT 146 (.faddr 3 (.t 12)) 145,
                 oT 147 (.load none (.t 146)) 145,
                 oT 148 (.faddr 0 (.t 12)) 145,
                 oT 149 (.load none (.t 148)) 145,
                 oT 150 (.lenL (.t 149)) 145,
                 oT 151 (.bin .lss (.t 147) (.t 150)) 145,
                 o1 152 (.pick (.t 145) (.t 151) (cB false)),
                 o1 6 (.mv (.t 152))])))
              (.reg [o1 153 (.bin .add (.t 129) (cI 1)),
               o1 129 (.mv (.t 153))])))))))
        (.seq (.seq (.reg [o1 154 (.mv (.t 6)),
           o1 155 (.un .not (.t 154))])
          (.cond (.t 155) (.seq (.reg [o1 2 (.mv (cI 1))])
            (.ret)) (.skip)))
         (.seq (.reg [o1 2 (.mv (cI 0))])
          (.ret)))))))))
theorem s21_ok : lookF Try.prog 21 = some (s21, 156, [.tmp 2]) := by kernel_rfl
set_option maxHeartbeats 1000000 in
theorem hValidate_ok (h : Book) : Fn P 21 [bkA h] (intA (vErr h)) := by
  by_cases h0 : 300 < h.2.2.1.length ∨ 300 < h.2.2.2.1.length ∨ 24 < h.2.2.2.2.length
  · rw [vErr, if_pos h0]
    (refine fn_look s21_ok (by simp) (by intro k; simp only [go_sem, Nat.reduceEqDiff, ↓reduceIte, reduceCtorEq, Nat.reduceAdd, Nat.reduceMul, Int.reduceToNat, List.reduceReplicate, Nat.reduceLeDiff, Nat.reduceLT, Int.reduceLT, Int.reduceLE, Int.reduceEq]) fun S hS => cwp_sound _ _ _ _ ?_; simp (maxSteps := 900000) (disch := omega) only [s21, go_sem, Nat.reduceEqDiff, ↓reduceIte, reduceCtorEq, Nat.reduceAdd, Nat.reduceMul, Int.reduceToNat, List.reduceReplicate, Nat.reduceLeDiff, Nat.reduceLT, Int.reduceLT, Int.reduceLE, Int.reduceEq])
    repeat' (first | with_reducible refine inw ?_ | simp (maxSteps := 900000) (disch := omega) only [go_sem, Nat.reduceEqDiff, ↓reduceIte, reduceCtorEq, Nat.reduceAdd, Nat.reduceMul, Int.reduceToNat, List.reduceReplicate, Nat.reduceLeDiff, Nat.reduceLT, Int.reduceLT, Int.reduceLE, Int.reduceEq] | with_reducible refine pickB_f ?_ | with_reducible refine giv_intro fun _h => ?_ | with_reducible refine alt_intro ?_ fun _h => ?_ | with_reducible refine pickD_nil ?_ | (with_reducible refine brc (fun _h => ?_) fun _h => ?_) <;> first | (exfalso; omega) | simp only [decide_eq_false _h] | simp only [(_h : (_ : Bool) = _)] | simp only [decide_eq_true _h] | skip)
    all_goals skip
  have c1 := words_ok h (by omega) (by omega) (by omega)
  rw [vErr, if_neg h0]
  have hw1 : ∀ p ∈ h.2.2.1, p.1 ∈ bookW h := fun p hp => by simp only [bookW, List.mem_append, List.mem_map]; exact .inl ⟨p, hp, rfl⟩
  have hw2 : ∀ p ∈ h.2.2.2.1, p.1 ∈ bookW h := fun p hp => by simp only [bookW, List.mem_append, List.mem_map]; exact .inr (.inl ⟨p, hp, rfl⟩)
  have hbk : bookB h = (edgB h && (List.range h.2.2.1.length).all (patsI h.2.2.1) && (List.range h.2.2.2.1.length).all (brksI h.2.2.2.1) && (List.range h.2.2.2.2.length).all fun i => trnB (nth h.2.2.2.2 i)) := rfl
  generalize bookW h = W at *
  generalize bookB h = B at *
  have hed : edgB h = (decide (1 ≤ h.1) && decide (h.1 ≤ 60) && decide (1 ≤ h.2.1) && decide (h.2.1 ≤ 60)) := rfl
  obtain ⟨lf, rt, ps, xs, ts⟩ := h
  dsimp only at *
  (refine fn_look s21_ok (by simp) (by intro k; simp only [go_sem, Nat.reduceEqDiff, ↓reduceIte, reduceCtorEq, Nat.reduceAdd, Nat.reduceMul, Int.reduceToNat, List.reduceReplicate, Nat.reduceLeDiff, Nat.reduceLT, Int.reduceLT, Int.reduceLE, Int.reduceEq]) fun S hS => cwp_sound _ _ _ _ ?_; simp (maxSteps := 900000) (disch := omega) only [s21, go_sem, Nat.reduceEqDiff, ↓reduceIte, reduceCtorEq, Nat.reduceAdd, Nat.reduceMul, Int.reduceToNat, List.reduceReplicate, Nat.reduceLeDiff, Nat.reduceLT, Int.reduceLT, Int.reduceLE, Int.reduceEq])
  repeat' (first | with_reducible refine inw ?_ | simp (maxSteps := 900000) (disch := omega) only [go_sem, Nat.reduceEqDiff, ↓reduceIte, reduceCtorEq, Nat.reduceAdd, Nat.reduceMul, Int.reduceToNat, List.reduceReplicate, Nat.reduceLeDiff, Nat.reduceLT, Int.reduceLT, Int.reduceLE, Int.reduceEq] | (with_reducible apply call (c1)); (focus simp (maxSteps := 900000) (disch := omega) only [go_sem, Nat.reduceEqDiff, ↓reduceIte, reduceCtorEq, Nat.reduceAdd, Nat.reduceMul, Int.reduceToNat, List.reduceReplicate, Nat.reduceLeDiff, Nat.reduceLT, Int.reduceLT, Int.reduceLE, Int.reduceEq] <;> rfl) | with_reducible refine pickB_f ?_ | with_reducible refine giv_intro fun _h => ?_ | with_reducible refine alt_intro ?_ fun _h => ?_ | with_reducible refine pickD_nil ?_ | (with_reducible refine brc (fun _h => ?_) fun _h => ?_) <;> first | (exfalso; omega) | simp only [decide_eq_false _h] | simp only [(_h : (_ : Bool) = _)] | simp only [decide_eq_true _h] | skip)
  (refine loopC hS [1, 30, 31] (by simp only [go_sem, Nat.reduceEqDiff, ↓reduceIte, reduceCtorEq, Nat.reduceAdd, Nat.reduceMul, Int.reduceToNat, List.reduceReplicate, Nat.reduceLeDiff, Nat.reduceLT, Int.reduceLT, Int.reduceLE, Int.reduceEq]; try rfl) (fun (i : Nat) => [(32, intA i)]) (fun (i : Nat) => [some (.row 37 5 [intA lf, intA rt, sl ps, sl xs, sl ts])]) (fun (i : Nat) => i ≤ W.length ∧ wordsErr W = wordsErr (W.drop i)) (fun (i : Nat) => W.length - i) (0) ?_ (by intro s; first | (simp only [List.length_cons, List.length_nil]; done) | rfl | (rcases s with ⟨_, _⟩; rfl) | (rcases s with ⟨_, _, _⟩; rfl) | (rcases s with ⟨_, _, _, _⟩; rfl) | (rcases s with ⟨_, _, _, _, _⟩; rfl)) ?_)
  · simp (maxSteps := 900000) (disch := omega) only [go_sem, Nat.reduceEqDiff, ↓reduceIte, reduceCtorEq, Nat.reduceAdd, Nat.reduceMul, Int.reduceToNat, List.reduceReplicate, Nat.reduceLeDiff, Nat.reduceLT, Int.reduceLT, Int.reduceLE, Int.reduceEq]
    exact Nat.zero_le _
  rintro i ⟨hi, hI⟩
  replace hi : i ≤ W.length := hi
  replace hI : wordsErr W = wordsErr (W.drop i) := hI
  by_cases hil : i < W.length
  · rw [nth_drop hil, wordsErr] at hI
    have c2 := ValidateWord_ok (nth W i)
    by_cases he : wordErr (nth W i) ≠ 0
    · rw [if_pos he] at hI
      repeat' (first | with_reducible refine inw ?_ | simp (maxSteps := 900000) (disch := omega) only [go_sem, Nat.reduceEqDiff, ↓reduceIte, reduceCtorEq, Nat.reduceAdd, Nat.reduceMul, Int.reduceToNat, List.reduceReplicate, Nat.reduceLeDiff, Nat.reduceLT, Int.reduceLT, Int.reduceLE, Int.reduceEq] | (with_reducible apply call (c2)); (focus simp (maxSteps := 900000) (disch := omega) only [go_sem, Nat.reduceEqDiff, ↓reduceIte, reduceCtorEq, Nat.reduceAdd, Nat.reduceMul, Int.reduceToNat, List.reduceReplicate, Nat.reduceLeDiff, Nat.reduceLT, Int.reduceLT, Int.reduceLE, Int.reduceEq] <;> rfl) | with_reducible refine pickB_f ?_ | with_reducible refine giv_intro fun _h => ?_ | with_reducible refine alt_intro ?_ fun _h => ?_ | with_reducible refine pickD_nil ?_ | (with_reducible refine brc (fun _h => ?_) fun _h => ?_) <;> first | (exfalso; omega) | simp only [decide_eq_false _h] | simp only [(_h : (_ : Bool) = _)] | simp only [decide_eq_true _h] | skip)
      rw [hI, if_pos he]
    · rw [if_neg he] at hI
      repeat' (first | with_reducible refine inw ?_ | simp (maxSteps := 900000) (disch := omega) only [go_sem, Nat.reduceEqDiff, ↓reduceIte, reduceCtorEq, Nat.reduceAdd, Nat.reduceMul, Int.reduceToNat, List.reduceReplicate, Nat.reduceLeDiff, Nat.reduceLT, Int.reduceLT, Int.reduceLE, Int.reduceEq] | (with_reducible apply call (c2)); (focus simp (maxSteps := 900000) (disch := omega) only [go_sem, Nat.reduceEqDiff, ↓reduceIte, reduceCtorEq, Nat.reduceAdd, Nat.reduceMul, Int.reduceToNat, List.reduceReplicate, Nat.reduceLeDiff, Nat.reduceLT, Int.reduceLT, Int.reduceLE, Int.reduceEq] <;> rfl) | with_reducible refine pickB_f ?_ | with_reducible refine giv_intro fun _h => ?_ | with_reducible refine alt_intro ?_ fun _h => ?_ | with_reducible refine pickD_nil ?_ | (with_reducible refine brc (fun _h => ?_) fun _h => ?_) <;> first | (exfalso; omega) | simp only [decide_eq_false _h] | simp only [(_h : (_ : Bool) = _)] | simp only [decide_eq_true _h] | skip)
      exact ⟨i + 1, ⟨by omega, by omega, hI⟩, by omega⟩
  rw [drop_end (by omega)] at hI
  have hW0 : wordsErr W = 0 := hI
  rw [if_neg (by omega)]
  have hwp : ∀ p ∈ ps, p.1.length ≤ 60 := fun p hp => wordErr_len (wordsErr_mem hW0 _ (hw1 p hp))
  have hwx : ∀ p ∈ xs, p.1.length ≤ 60 := fun p hp => wordErr_len (wordsErr_mem hW0 _ (hw2 p hp))
  have hes : ∀ b : Bool, b = edgB (lf, rt, ps, xs, ts) → b = (edgB (lf, rt, ps, xs, ts) && (List.range 0).all (patsI ps)) := fun b e => by simp [e]
  generalize edgB (lf, rt, ps, xs, ts) = E at *
  repeat' (first | with_reducible refine inw ?_ | simp (maxSteps := 900000) (disch := omega) only [go_sem, Nat.reduceEqDiff, ↓reduceIte, reduceCtorEq, Nat.reduceAdd, Nat.reduceMul, Int.reduceToNat, List.reduceReplicate, Nat.reduceLeDiff, Nat.reduceLT, Int.reduceLT, Int.reduceLE, Int.reduceEq] | with_reducible refine pickB_f ?_ | with_reducible refine giv_intro fun _h => ?_ | with_reducible refine alt_intro ?_ fun _h => ?_ | with_reducible refine pickD_nil ?_ | (with_reducible refine brc (fun _h => ?_) fun _h => ?_) <;> first | (exfalso; omega) | simp only [decide_eq_false _h] | simp only [(_h : (_ : Bool) = _)] | simp only [decide_eq_true _h] | skip)
  all_goals
    (refine loopC hS [1, 61, 62] (by simp only [go_sem, Nat.reduceEqDiff, ↓reduceIte, reduceCtorEq, Nat.reduceAdd, Nat.reduceMul, Int.reduceToNat, List.reduceReplicate, Nat.reduceLeDiff, Nat.reduceLT, Int.reduceLT, Int.reduceLE, Int.reduceEq]; try rfl) (fun (i : Nat) => [(6, boolA (E && (List.range i).all (patsI ps))), (63, intA i)]) (fun (i : Nat) => [some (.row 37 5 [intA lf, intA rt, sl ps, sl xs, sl ts])]) (fun (i : Nat) => i ≤ ps.length) (fun (i : Nat) => ps.length - i) (0) ?_ (by intro s; first | (simp only [List.length_cons, List.length_nil]; done) | rfl | (rcases s with ⟨_, _⟩; rfl) | (rcases s with ⟨_, _, _⟩; rfl) | (rcases s with ⟨_, _, _, _⟩; rfl) | (rcases s with ⟨_, _, _, _, _⟩; rfl)) ?_)
    · simp (maxSteps := 900000) (disch := omega) only [go_sem, Nat.reduceEqDiff, ↓reduceIte, reduceCtorEq, Nat.reduceAdd, Nat.reduceMul, Int.reduceToNat, List.reduceReplicate, Nat.reduceLeDiff, Nat.reduceLT, Int.reduceLT, Int.reduceLE, Int.reduceEq]
      refine ⟨Nat.zero_le _, hes _ ?_⟩
      rw [hed]
      simp
      try omega
  all_goals
    rintro i hi
    replace hi : i ≤ ps.length := hi
    by_cases hil : i < ps.length
    · have hst : (E && (List.range (i + 1)).all (patsI ps)) = ((E && (List.range i).all (patsI ps)) && patsI ps i) := by rw [range_succ, Bool.and_assoc]
      have hpi : patsI ps i = (patB (nth ps i) && (decide (i = 0) || decide (orderL (nth ps (i - 1)).1 (nth ps i).1 < 0))) := rfl
      have hl1 := hwp _ (nth_mem hil)
      have hl2 : (nth ps (i - 1)).1.length ≤ 60 := hwp _ (nth_mem (by omega))
      have d1 : Fn P 47 [.agg [sl (nth ps i).1, sl (nth ps i).2]] (boolA (patB (nth ps i))) := isPat_ok (nth ps i) (by omega)
      have d2 := slCompare_ok (nth ps (i - 1)).1 (nth ps i).1 (by omega) (by omega)
      have e1 : ((i : Int) - 1).toNat = i - 1 := by omega
      have eC : ((cellsL ps).drop (i * 2)).take 2 = [sl (nth ps i).1, sl (nth ps i).2] := by rw [cellsL_drop, nth_drop hil]; rfl
      have eD : (cellsL ps)[(i - 1) * 2]? = some (sl (nth ps (i - 1)).1) := cells2_0 (show i - 1 < ps.length by omega)
      generalize (E && (List.range i).all (patsI ps)) = b at *
      generalize patB (nth ps i) = c at *
      generalize orderL (nth ps (i - 1)).1 (nth ps i).1 = o at *
      repeat' (first | with_reducible refine inw ?_ | simp (maxSteps := 900000) (disch := omega) only [go_sem, Nat.reduceEqDiff, ↓reduceIte, reduceCtorEq, Nat.reduceAdd, Nat.reduceMul, Int.reduceToNat, List.reduceReplicate, Nat.reduceLeDiff, Nat.reduceLT, Int.reduceLT, Int.reduceLE, Int.reduceEq, e1, eC, eD] | (with_reducible apply call_D (d1)); (focus simp (maxSteps := 900000) (disch := omega) only [go_sem, Nat.reduceEqDiff, ↓reduceIte, reduceCtorEq, Nat.reduceAdd, Nat.reduceMul, Int.reduceToNat, List.reduceReplicate, Nat.reduceLeDiff, Nat.reduceLT, Int.reduceLT, Int.reduceLE, Int.reduceEq, e1, eC, eD] <;> rfl) | (with_reducible apply call_D (d2)); (focus simp (maxSteps := 900000) (disch := omega) only [go_sem, Nat.reduceEqDiff, ↓reduceIte, reduceCtorEq, Nat.reduceAdd, Nat.reduceMul, Int.reduceToNat, List.reduceReplicate, Nat.reduceLeDiff, Nat.reduceLT, Int.reduceLT, Int.reduceLE, Int.reduceEq, e1, eC, eD] <;> rfl) | with_reducible refine pickB_f ?_ | with_reducible refine giv_intro fun _h => ?_ | with_reducible refine alt_intro ?_ fun _h => ?_ | with_reducible refine pickD_nil ?_ | (with_reducible refine brc (fun _h => ?_) fun _h => ?_) <;> first | (exfalso; omega) | simp only [decide_eq_false _h] | simp only [(_h : (_ : Bool) = _)] | simp only [decide_eq_true _h] | skip)
      all_goals
        refine ⟨i + 1, ⟨by omega, by omega⟩, ?_, by omega⟩
        rw [hst, hpi]
        clear hst hpi d1 d2 c1
        subst_vars
        first | (simp; done) | (simp; omega)
    · have hie : i = ps.length := by omega
      subst hie
      have hes2 : (E && (List.range ps.length).all (patsI ps)) = ((E && (List.range ps.length).all (patsI ps)) && (List.range 0).all (brksI xs)) := by simp
      generalize (E && (List.range ps.length).all (patsI ps)) = E2 at *
      repeat' (first | with_reducible refine inw ?_ | simp (maxSteps := 900000) (disch := omega) only [go_sem, Nat.reduceEqDiff, ↓reduceIte, reduceCtorEq, Nat.reduceAdd, Nat.reduceMul, Int.reduceToNat, List.reduceReplicate, Nat.reduceLeDiff, Nat.reduceLT, Int.reduceLT, Int.reduceLE, Int.reduceEq] | with_reducible refine pickB_f ?_ | with_reducible refine giv_intro fun _h => ?_ | with_reducible refine alt_intro ?_ fun _h => ?_ | with_reducible refine pickD_nil ?_ | (with_reducible refine brc (fun _h => ?_) fun _h => ?_) <;> first | (exfalso; omega) | simp only [decide_eq_false _h] | simp only [(_h : (_ : Bool) = _)] | simp only [decide_eq_true _h] | skip)
      (refine loopC hS [1, 92, 93] (by simp only [go_sem, Nat.reduceEqDiff, ↓reduceIte, reduceCtorEq, Nat.reduceAdd, Nat.reduceMul, Int.reduceToNat, List.reduceReplicate, Nat.reduceLeDiff, Nat.reduceLT, Int.reduceLT, Int.reduceLE, Int.reduceEq]; try rfl) (fun (i : Nat) => [(6, boolA (E2 && (List.range i).all (brksI xs))), (94, intA i)]) (fun (i : Nat) => [some (.row 37 5 [intA lf, intA rt, sl ps, sl xs, sl ts])]) (fun (i : Nat) => i ≤ xs.length) (fun (i : Nat) => xs.length - i) (0) ?_ (by intro s; first | (simp only [List.length_cons, List.length_nil]; done) | rfl | (rcases s with ⟨_, _⟩; rfl) | (rcases s with ⟨_, _, _⟩; rfl) | (rcases s with ⟨_, _, _, _⟩; rfl) | (rcases s with ⟨_, _, _, _, _⟩; rfl)) ?_)
      · simp (maxSteps := 900000) (disch := omega) only [go_sem, Nat.reduceEqDiff, ↓reduceIte, reduceCtorEq, Nat.reduceAdd, Nat.reduceMul, Int.reduceToNat, List.reduceReplicate, Nat.reduceLeDiff, Nat.reduceLT, Int.reduceLT, Int.reduceLE, Int.reduceEq]
        exact ⟨Nat.zero_le _, hes2⟩
      rintro i hi
      replace hi : i ≤ xs.length := hi
      by_cases hil : i < xs.length
      · have hst : (E2 && (List.range (i + 1)).all (brksI xs)) = ((E2 && (List.range i).all (brksI xs)) && brksI xs i) := by rw [range_succ, Bool.and_assoc]
        have hpi : brksI xs i = (placesB (nth xs i).2 (nth xs i).1.length && (decide (i = 0) || decide (orderL (nth xs (i - 1)).1 (nth xs i).1 < 0))) := rfl
        have hl1 := hwx _ (nth_mem hil)
        have hl2 : (nth xs (i - 1)).1.length ≤ 60 := hwx _ (nth_mem (by omega))
        have d1 := isAt_ok (nth xs i).2 (nth xs i).1.length
        have d2 := slCompare_ok (nth xs (i - 1)).1 (nth xs i).1 (by omega) (by omega)
        have e1 : ((i : Int) - 1).toNat = i - 1 := by omega
        have eC : ((cellsL xs).drop (i * 2)).take 2 = [sl (nth xs i).1, sl (nth xs i).2] := by rw [cellsL_drop, nth_drop hil]; rfl
        have eD : (cellsL xs)[(i - 1) * 2]? = some (sl (nth xs (i - 1)).1) := cells2_0 (show i - 1 < xs.length by omega)
        generalize (E2 && (List.range i).all (brksI xs)) = b at *
        generalize placesB (nth xs i).2 (nth xs i).1.length = c at *
        generalize orderL (nth xs (i - 1)).1 (nth xs i).1 = o at *
        repeat' (first | with_reducible refine inw ?_ | simp (maxSteps := 900000) (disch := omega) only [go_sem, Nat.reduceEqDiff, ↓reduceIte, reduceCtorEq, Nat.reduceAdd, Nat.reduceMul, Int.reduceToNat, List.reduceReplicate, Nat.reduceLeDiff, Nat.reduceLT, Int.reduceLT, Int.reduceLE, Int.reduceEq, e1, eC, eD] | (with_reducible apply call_D (d1)); (focus simp (maxSteps := 900000) (disch := omega) only [go_sem, Nat.reduceEqDiff, ↓reduceIte, reduceCtorEq, Nat.reduceAdd, Nat.reduceMul, Int.reduceToNat, List.reduceReplicate, Nat.reduceLeDiff, Nat.reduceLT, Int.reduceLT, Int.reduceLE, Int.reduceEq, e1, eC, eD] <;> rfl) | (with_reducible apply call_D (d2)); (focus simp (maxSteps := 900000) (disch := omega) only [go_sem, Nat.reduceEqDiff, ↓reduceIte, reduceCtorEq, Nat.reduceAdd, Nat.reduceMul, Int.reduceToNat, List.reduceReplicate, Nat.reduceLeDiff, Nat.reduceLT, Int.reduceLT, Int.reduceLE, Int.reduceEq, e1, eC, eD] <;> rfl) | with_reducible refine pickB_f ?_ | with_reducible refine giv_intro fun _h => ?_ | with_reducible refine alt_intro ?_ fun _h => ?_ | with_reducible refine pickD_nil ?_ | (with_reducible refine brc (fun _h => ?_) fun _h => ?_) <;> first | (exfalso; omega) | simp only [decide_eq_false _h] | simp only [(_h : (_ : Bool) = _)] | simp only [decide_eq_true _h] | skip)
        all_goals
          refine ⟨i + 1, ⟨by omega, by omega⟩, ?_, by omega⟩
          rw [hst, hpi]
          clear hst hpi d1 d2 c1
          subst_vars
          first | (simp; done) | (simp; omega)
      have hie : i = xs.length := by omega
      subst hie
      have hes3 : (E2 && (List.range xs.length).all (brksI xs)) = ((E2 && (List.range xs.length).all (brksI xs)) && (List.range 0).all fun i => trnB (nth ts i)) := by simp
      generalize (E2 && (List.range xs.length).all (brksI xs)) = E3 at *
      repeat' (first | with_reducible refine inw ?_ | simp (maxSteps := 900000) (disch := omega) only [go_sem, Nat.reduceEqDiff, ↓reduceIte, reduceCtorEq, Nat.reduceAdd, Nat.reduceMul, Int.reduceToNat, List.reduceReplicate, Nat.reduceLeDiff, Nat.reduceLT, Int.reduceLT, Int.reduceLE, Int.reduceEq] | with_reducible refine pickB_f ?_ | with_reducible refine giv_intro fun _h => ?_ | with_reducible refine alt_intro ?_ fun _h => ?_ | with_reducible refine pickD_nil ?_ | (with_reducible refine brc (fun _h => ?_) fun _h => ?_) <;> first | (exfalso; omega) | simp only [decide_eq_false _h] | simp only [(_h : (_ : Bool) = _)] | simp only [decide_eq_true _h] | skip)
      (refine loopC hS [127, 128] (by simp only [go_sem, Nat.reduceEqDiff, ↓reduceIte, reduceCtorEq, Nat.reduceAdd, Nat.reduceMul, Int.reduceToNat, List.reduceReplicate, Nat.reduceLeDiff, Nat.reduceLT, Int.reduceLT, Int.reduceLE, Int.reduceEq]; try rfl) (fun (i : Nat) => [(6, boolA (E3 && (List.range i).all fun i => trnB (nth ts i))), (129, intA i)]) (fun (i : Nat) => [none]) (fun (i : Nat) => i ≤ ts.length) (fun (i : Nat) => ts.length - i) (0) ?_ (by intro s; first | (simp only [List.length_cons, List.length_nil]; done) | rfl | (rcases s with ⟨_, _⟩; rfl) | (rcases s with ⟨_, _, _⟩; rfl) | (rcases s with ⟨_, _, _, _⟩; rfl) | (rcases s with ⟨_, _, _, _, _⟩; rfl)) ?_)
      · simp (maxSteps := 900000) (disch := omega) only [go_sem, Nat.reduceEqDiff, ↓reduceIte, reduceCtorEq, Nat.reduceAdd, Nat.reduceMul, Int.reduceToNat, List.reduceReplicate, Nat.reduceLeDiff, Nat.reduceLT, Int.reduceLT, Int.reduceLE, Int.reduceEq]
        exact ⟨Nat.zero_le _, hes3⟩
      rintro i hi
      replace hi : i ≤ ts.length := hi
      by_cases hil : i < ts.length
      · have hst : (E3 && (List.range (i + 1)).all fun i => trnB (nth ts i)) = ((E3 && (List.range i).all fun i => trnB (nth ts i)) && trnB (nth ts i)) := by rw [range_succ, Bool.and_assoc]
        have hpi : trnB (nth ts i) = (decide (0 < (nth ts i).1.length) && decide (1 ≤ (nth ts i).2.2.2) && decide ((nth ts i).2.2.2 < ((nth ts i).1.length : Int))) := rfl
        have eC : ((cellsL ts).drop (i * 4)).take 4 = [sl (nth ts i).1, sl (nth ts i).2.1, sl (nth ts i).2.2.1, intA (nth ts i).2.2.2] := by rw [cellsL_drop, nth_drop hil]; rfl
        generalize (E3 && (List.range i).all fun i => trnB (nth ts i)) = b at *
        repeat' (first | with_reducible refine inw ?_ | simp (maxSteps := 900000) (disch := omega) only [go_sem, Nat.reduceEqDiff, ↓reduceIte, reduceCtorEq, Nat.reduceAdd, Nat.reduceMul, Int.reduceToNat, List.reduceReplicate, Nat.reduceLeDiff, Nat.reduceLT, Int.reduceLT, Int.reduceLE, Int.reduceEq, eC] | with_reducible refine pickB_f ?_ | with_reducible refine giv_intro fun _h => ?_ | with_reducible refine alt_intro ?_ fun _h => ?_ | with_reducible refine pickD_nil ?_ | (with_reducible refine brc (fun _h => ?_) fun _h => ?_) <;> first | (exfalso; omega) | simp only [decide_eq_false _h] | simp only [(_h : (_ : Bool) = _)] | simp only [decide_eq_true _h] | skip)
        all_goals
          refine ⟨i + 1, ⟨by omega, by omega⟩, ?_, by omega⟩
          rw [hst, hpi]
          clear hst hpi c1
          subst_vars
          first | (simp; done) | (simp; omega)
      have hie : i = ts.length := by omega
      subst hie
      rw [hbk]
      generalize (E3 && (List.range ts.length).all fun i => trnB (nth ts i)) = E4 at *
      repeat' (first | with_reducible refine inw ?_ | simp (maxSteps := 900000) (disch := omega) only [go_sem, Nat.reduceEqDiff, ↓reduceIte, reduceCtorEq, Nat.reduceAdd, Nat.reduceMul, Int.reduceToNat, List.reduceReplicate, Nat.reduceLeDiff, Nat.reduceLT, Int.reduceLT, Int.reduceLE, Int.reduceEq] | with_reducible refine pickB_f ?_ | with_reducible refine giv_intro fun _h => ?_ | with_reducible refine alt_intro ?_ fun _h => ?_ | with_reducible refine pickD_nil ?_ | (with_reducible refine brc (fun _h => ?_) fun _h => ?_) <;> first | (exfalso; omega) | simp only [decide_eq_false _h] | simp only [(_h : (_ : Bool) = _)] | simp only [decide_eq_true _h] | skip)
      all_goals first | (subst_vars; rfl) | (simp_all; done)
end Go.Proofs.Ytfihpbeihlpfcaa.Ev

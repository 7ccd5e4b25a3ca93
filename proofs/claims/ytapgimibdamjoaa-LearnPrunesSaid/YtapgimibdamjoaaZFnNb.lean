/- Changes as they must be. -/
import Derived.Test.YtapgimibdamjoaaZFnNa
set_option linter.unusedVariables false
set_option linter.unusedSimpArgs false
namespace Go.Proofs.Ytapgimibdamjoaa.Ev
open Go Go.Proofs

/-- slices.IndexFunc[[]ablaut/api.Change,ablaut/api.Change]: 2 parameters, 0 captured -/
def s61 : SC := .seq (.reg [o1 4 (.mv (cI 0))])
  (.seq (.seq (.reg [o1 6 (.mv (.t 0)),
     o1 7 (.lenL (.t 6)),
     o1 8 (.mv (cI 0))])
    (.block 0 (.loop (.seq (.reg [o1 9 (.bin .lss (.t 8) (.t 7))])
       (.seq (.cond (.t 9) (.skip) (.exit 0))
        (.seq (.block 1 (.seq (.reg [o1 10 (.mv (.t 8)),
            o1 5 (.mv (.t 10))])
           (.seq (.reg [o1 11 (.mv (.t 1)),
             o1 12 (.mv (.t 0)),
             o1 13 (.mv (.t 5)),
             o1 14 (.iaddr 4 (.t 12) (.t 13)),
             o1 15 (.load (some 4) (.t 14)),
             o1 16 (.call (.t 11) [(.t 15)])])
            (.cond (.t 16) (.seq (.reg [o1 17 (.mv (.t 5)),
               o1 4 (.mv (.t 17))])
              (.ret)) (.skip)))))
         (.reg [o1 18 (.bin .add (.t 8) (cI 1)),
          o1 8 (.mv (.t 18))])))))))
   (.seq (.reg [o1 4 (.mv (cI (-1)))])
    (.ret)))
theorem s61_ok : lookF Try.prog 61 = some (s61, 19, [.tmp 4]) := by kernel_rfl
theorem indexFuncC_ok (l : List Change) (p : Change → Bool) (g : FuncId) (caps : List AV) (hc : ∀ c ∈ caps, AV.Still c) (hp : ∀ x, x ∈ l → Fn P g (chA x :: caps) (boolA (p x))) :
    Fn P 61 [sl l, .clo g caps] (intA (match l.findIdx? p with | some i => (i : Int) | none => -1)) := by
  have h1 := caps_seen hc
  have h2 := caps_bel hc
  (refine fn_look s61_ok (by simp) (by intro k; simp only [go_sem, Nat.reduceEqDiff, ↓reduceIte, reduceCtorEq, Nat.reduceAdd, Nat.reduceMul, Int.reduceToNat, List.reduceReplicate, Nat.reduceLeDiff, Nat.reduceLT, Int.reduceLT, Int.reduceLE, Int.reduceEq]) fun S hS => cwp_sound _ _ _ _ ?_; simp (maxSteps := 900000) (disch := omega) only [s61, go_sem, Nat.reduceEqDiff, ↓reduceIte, reduceCtorEq, Nat.reduceAdd, Nat.reduceMul, Int.reduceToNat, List.reduceReplicate, Nat.reduceLeDiff, Nat.reduceLT, Int.reduceLT, Int.reduceLE, Int.reduceEq])
  repeat' (first | with_reducible refine inw ?_ | simp (maxSteps := 900000) (disch := omega) only [go_sem, Nat.reduceEqDiff, ↓reduceIte, reduceCtorEq, Nat.reduceAdd, Nat.reduceMul, Int.reduceToNat, List.reduceReplicate, Nat.reduceLeDiff, Nat.reduceLT, Int.reduceLT, Int.reduceLE, Int.reduceEq, h1, h2] | with_reducible refine giv_intro fun _h => ?_ | with_reducible refine alt_intro ?_ fun _h => ?_ | with_reducible refine pickD_nil ?_ | (with_reducible refine brc (fun _h => ?_) fun _h => ?_) <;> first | (exfalso; omega) | simp only [decide_eq_false _h] | simp only [(_h : (_ : Bool) = _)] | simp only [decide_eq_true _h] | skip)
  (refine loopC hS [0, 1, 7] (by simp only [go_sem, Nat.reduceEqDiff, ↓reduceIte, reduceCtorEq, Nat.reduceAdd, Nat.reduceMul, Int.reduceToNat, List.reduceReplicate, Nat.reduceLeDiff, Nat.reduceLT, Int.reduceLT, Int.reduceLE, Int.reduceEq]; try rfl) (fun (i : Nat) => [(8, intA i)]) (fun (i : Nat) => []) (fun (i : Nat) => i ≤ l.length ∧ l.findIdx? p = ((l.drop i).findIdx? p).map (· + i)) (fun (i : Nat) => l.length - i) (0) ?h01 ?hn1 ?rd1; case hn1 => (intro s; first | rfl | (rcases s with ⟨_, _⟩; rfl) | (rcases s with ⟨_, _, _⟩; rfl) | (rcases s with ⟨_, _, _, _⟩; rfl) | (rcases s with ⟨_, _, _, _, _⟩; rfl)))
  · simp (maxSteps := 900000) (disch := omega) only [go_sem, Nat.reduceEqDiff, ↓reduceIte, reduceCtorEq, Nat.reduceAdd, Nat.reduceMul, Int.reduceToNat, List.reduceReplicate, Nat.reduceLeDiff, Nat.reduceLT, Int.reduceLT, Int.reduceLE, Int.reduceEq]; simp
  rintro i ⟨hi, hI⟩
  repeat' (first | with_reducible refine inw ?_ | simp (maxSteps := 900000) (disch := omega) only [go_sem, Nat.reduceEqDiff, ↓reduceIte, reduceCtorEq, Nat.reduceAdd, Nat.reduceMul, Int.reduceToNat, List.reduceReplicate, Nat.reduceLeDiff, Nat.reduceLT, Int.reduceLT, Int.reduceLE, Int.reduceEq, h1, h2] | (with_reducible apply call (hp _ (nth_mem (by assumption)))); (focus simp (maxSteps := 900000) (disch := omega) only [go_sem, Nat.reduceEqDiff, ↓reduceIte, reduceCtorEq, Nat.reduceAdd, Nat.reduceMul, Int.reduceToNat, List.reduceReplicate, Nat.reduceLeDiff, Nat.reduceLT, Int.reduceLT, Int.reduceLE, Int.reduceEq, h1, h2] <;> rfl) | with_reducible refine giv_intro fun _h => ?_ | with_reducible refine alt_intro ?_ fun _h => ?_ | with_reducible refine pickD_nil ?_ | (with_reducible refine brc (fun _h => ?_) fun _h => ?_) <;> first | (exfalso; omega) | simp only [decide_eq_false _h] | simp only [(_h : (_ : Bool) = _)] | simp only [decide_eq_true _h] | skip)
  · rw [hI, nth_drop (by assumption)]
    simp_all [List.findIdx?_cons]
  · refine ⟨i + 1, ⟨by omega, by omega, ?_⟩, by omega⟩
    rw [hI, nth_drop (by assumption), List.findIdx?_cons]
    simp_all [Function.comp_def, Nat.add_comm, Nat.add_left_comm]
  · rw [hI, List.drop_eq_nil_of_le (by omega)]; rfl
/-- slices.ContainsFunc[[]ablaut/api.Change,ablaut/api.Change]: 2 parameters, 0 captured -/
def s35 : SC := .seq (.reg [o1 4 (.mv (cB false))])
  (.seq (.reg [o1 5 (.mv (.t 0)),
    o1 6 (.mv (.t 1)),
    o1 7 (.call (.f 61) [(.t 5), (.t 6)]),
    o1 8 (.bin .geq (.t 7) (cI 0)),
    o1 4 (.mv (.t 8))])
   (.ret))
theorem s35_ok : lookF Try.prog 35 = some (s35, 9, [.tmp 4]) := by kernel_rfl
theorem containsFuncC_ok (l : List Change) (p : Change → Bool) (g : FuncId) (caps : List AV) (hc : ∀ c ∈ caps, AV.Still c) (hp : ∀ x, x ∈ l → Fn P g (chA x :: caps) (boolA (p x))) : Fn P 35 [sl l, .clo g caps] (boolA (l.any p)) := by
  have h1 := caps_seen hc
  have h2 := caps_bel hc
  (refine fn_look s35_ok (by simp) (by intro k; simp only [go_sem, Nat.reduceEqDiff, ↓reduceIte, reduceCtorEq, Nat.reduceAdd, Nat.reduceMul, Int.reduceToNat, List.reduceReplicate, Nat.reduceLeDiff, Nat.reduceLT, Int.reduceLT, Int.reduceLE, Int.reduceEq]) fun S hS => cwp_sound _ _ _ _ ?_; simp (maxSteps := 900000) (disch := omega) only [s35, go_sem, Nat.reduceEqDiff, ↓reduceIte, reduceCtorEq, Nat.reduceAdd, Nat.reduceMul, Int.reduceToNat, List.reduceReplicate, Nat.reduceLeDiff, Nat.reduceLT, Int.reduceLT, Int.reduceLE, Int.reduceEq])
  repeat' (first | with_reducible refine inw ?_ | simp (maxSteps := 900000) (disch := omega) only [go_sem, Nat.reduceEqDiff, ↓reduceIte, reduceCtorEq, Nat.reduceAdd, Nat.reduceMul, Int.reduceToNat, List.reduceReplicate, Nat.reduceLeDiff, Nat.reduceLT, Int.reduceLT, Int.reduceLE, Int.reduceEq, h1, h2] | (with_reducible apply call (indexFuncC_ok l p g caps hc hp)); (focus simp (maxSteps := 900000) (disch := omega) only [go_sem, Nat.reduceEqDiff, ↓reduceIte, reduceCtorEq, Nat.reduceAdd, Nat.reduceMul, Int.reduceToNat, List.reduceReplicate, Nat.reduceLeDiff, Nat.reduceLT, Int.reduceLT, Int.reduceLE, Int.reduceEq, h1, h2] <;> rfl) | with_reducible refine giv_intro fun _h => ?_ | with_reducible refine alt_intro ?_ fun _h => ?_ | with_reducible refine pickD_nil ?_ | (with_reducible refine brc (fun _h => ?_) fun _h => ?_) <;> first | (exfalso; omega) | simp only [decide_eq_false _h] | simp only [(_h : (_ : Bool) = _)] | simp only [decide_eq_true _h] | skip)
  exact findIdx_anyG
/-- slices.IndexFunc[[]string,string]: 2 parameters, 0 captured -/
def s64 : SC := .seq (.reg [o1 4 (.mv (cI 0))])
  (.seq (.seq (.reg [o1 6 (.mv (.t 0)),
     o1 7 (.lenL (.t 6)),
     o1 8 (.mv (cI 0))])
    (.block 0 (.loop (.seq (.reg [o1 9 (.bin .lss (.t 8) (.t 7))])
       (.seq (.cond (.t 9) (.skip) (.exit 0))
        (.seq (.block 1 (.seq (.reg [o1 10 (.mv (.t 8)),
            o1 5 (.mv (.t 10))])
           (.seq (.reg [o1 11 (.mv (.t 1)),
             o1 12 (.mv (.t 0)),
             o1 13 (.mv (.t 5)),
             o1 14 (.iaddr 1 (.t 12) (.t 13)),
             o1 15 (.load none (.t 14)),
             o1 16 (.call (.t 11) [(.t 15)])])
            (.cond (.t 16) (.seq (.reg [o1 17 (.mv (.t 5)),
               o1 4 (.mv (.t 17))])
              (.ret)) (.skip)))))
         (.reg [o1 18 (.bin .add (.t 8) (cI 1)),
          o1 8 (.mv (.t 18))])))))))
   (.seq (.reg [o1 4 (.mv (cI (-1)))])
    (.ret)))
theorem s64_ok : lookF Try.prog 64 = some (s64, 19, [.tmp 4]) := by kernel_rfl
theorem indexFuncS_ok (l : List Str) (p : Str → Bool) (g : FuncId) (caps : List AV) (hc : ∀ c ∈ caps, AV.Still c) (hp : ∀ x, x ∈ l → Fn P g (strA x :: caps) (boolA (p x))) :
    Fn P 64 [sl l, .clo g caps] (intA (match l.findIdx? p with | some i => (i : Int) | none => -1)) := by
  have h1 := caps_seen hc
  have h2 := caps_bel hc
  (refine fn_look s64_ok (by simp) (by intro k; simp only [go_sem, Nat.reduceEqDiff, ↓reduceIte, reduceCtorEq, Nat.reduceAdd, Nat.reduceMul, Int.reduceToNat, List.reduceReplicate, Nat.reduceLeDiff, Nat.reduceLT, Int.reduceLT, Int.reduceLE, Int.reduceEq]) fun S hS => cwp_sound _ _ _ _ ?_; simp (maxSteps := 900000) (disch := omega) only [s64, go_sem, Nat.reduceEqDiff, ↓reduceIte, reduceCtorEq, Nat.reduceAdd, Nat.reduceMul, Int.reduceToNat, List.reduceReplicate, Nat.reduceLeDiff, Nat.reduceLT, Int.reduceLT, Int.reduceLE, Int.reduceEq])
  repeat' (first | with_reducible refine inw ?_ | simp (maxSteps := 900000) (disch := omega) only [go_sem, Nat.reduceEqDiff, ↓reduceIte, reduceCtorEq, Nat.reduceAdd, Nat.reduceMul, Int.reduceToNat, List.reduceReplicate, Nat.reduceLeDiff, Nat.reduceLT, Int.reduceLT, Int.reduceLE, Int.reduceEq, h1, h2] | with_reducible refine giv_intro fun _h => ?_ | with_reducible refine alt_intro ?_ fun _h => ?_ | with_reducible refine pickD_nil ?_ | (with_reducible refine brc (fun _h => ?_) fun _h => ?_) <;> first | (exfalso; omega) | simp only [decide_eq_false _h] | simp only [(_h : (_ : Bool) = _)] | simp only [decide_eq_true _h] | skip)
  (refine loopC hS [0, 1, 7] (by simp only [go_sem, Nat.reduceEqDiff, ↓reduceIte, reduceCtorEq, Nat.reduceAdd, Nat.reduceMul, Int.reduceToNat, List.reduceReplicate, Nat.reduceLeDiff, Nat.reduceLT, Int.reduceLT, Int.reduceLE, Int.reduceEq]; try rfl) (fun (i : Nat) => [(8, intA i)]) (fun (i : Nat) => []) (fun (i : Nat) => i ≤ l.length ∧ l.findIdx? p = ((l.drop i).findIdx? p).map (· + i)) (fun (i : Nat) => l.length - i) (0) ?h02 ?hn2 ?rd2; case hn2 => (intro s; first | rfl | (rcases s with ⟨_, _⟩; rfl) | (rcases s with ⟨_, _, _⟩; rfl) | (rcases s with ⟨_, _, _, _⟩; rfl) | (rcases s with ⟨_, _, _, _, _⟩; rfl)))
  · simp (maxSteps := 900000) (disch := omega) only [go_sem, Nat.reduceEqDiff, ↓reduceIte, reduceCtorEq, Nat.reduceAdd, Nat.reduceMul, Int.reduceToNat, List.reduceReplicate, Nat.reduceLeDiff, Nat.reduceLT, Int.reduceLT, Int.reduceLE, Int.reduceEq]; simp
  rintro i ⟨hi, hI⟩
  repeat' (first | with_reducible refine inw ?_ | simp (maxSteps := 900000) (disch := omega) only [go_sem, Nat.reduceEqDiff, ↓reduceIte, reduceCtorEq, Nat.reduceAdd, Nat.reduceMul, Int.reduceToNat, List.reduceReplicate, Nat.reduceLeDiff, Nat.reduceLT, Int.reduceLT, Int.reduceLE, Int.reduceEq, h1, h2] | (with_reducible apply call (hp _ (nth_mem (by assumption)))); (focus simp (maxSteps := 900000) (disch := omega) only [go_sem, Nat.reduceEqDiff, ↓reduceIte, reduceCtorEq, Nat.reduceAdd, Nat.reduceMul, Int.reduceToNat, List.reduceReplicate, Nat.reduceLeDiff, Nat.reduceLT, Int.reduceLT, Int.reduceLE, Int.reduceEq, h1, h2] <;> rfl) | with_reducible refine giv_intro fun _h => ?_ | with_reducible refine alt_intro ?_ fun _h => ?_ | with_reducible refine pickD_nil ?_ | (with_reducible refine brc (fun _h => ?_) fun _h => ?_) <;> first | (exfalso; omega) | simp only [decide_eq_false _h] | simp only [(_h : (_ : Bool) = _)] | simp only [decide_eq_true _h] | skip)
  · rw [hI, nth_drop (by assumption)]
    simp_all [List.findIdx?_cons]
  · refine ⟨i + 1, ⟨by omega, by omega, ?_⟩, by omega⟩
    rw [hI, nth_drop (by assumption), List.findIdx?_cons]
    simp_all [Function.comp_def, Nat.add_comm, Nat.add_left_comm]
  · rw [hI, List.drop_eq_nil_of_le (by omega)]; rfl
/-- slices.ContainsFunc[[]string,string]: 2 parameters, 0 captured -/
def s40 : SC := .seq (.reg [o1 4 (.mv (cB false))])
  (.seq (.reg [o1 5 (.mv (.t 0)),
    o1 6 (.mv (.t 1)),
    o1 7 (.call (.f 64) [(.t 5), (.t 6)]),
    o1 8 (.bin .geq (.t 7) (cI 0)),
    o1 4 (.mv (.t 8))])
   (.ret))
theorem s40_ok : lookF Try.prog 40 = some (s40, 9, [.tmp 4]) := by kernel_rfl
theorem containsFuncS_ok (l : List Str) (p : Str → Bool) (g : FuncId) (caps : List AV) (hc : ∀ c ∈ caps, AV.Still c) (hp : ∀ x, x ∈ l → Fn P g (strA x :: caps) (boolA (p x))) : Fn P 40 [sl l, .clo g caps] (boolA (l.any p)) := by
  have h1 := caps_seen hc
  have h2 := caps_bel hc
  (refine fn_look s40_ok (by simp) (by intro k; simp only [go_sem, Nat.reduceEqDiff, ↓reduceIte, reduceCtorEq, Nat.reduceAdd, Nat.reduceMul, Int.reduceToNat, List.reduceReplicate, Nat.reduceLeDiff, Nat.reduceLT, Int.reduceLT, Int.reduceLE, Int.reduceEq]) fun S hS => cwp_sound _ _ _ _ ?_; simp (maxSteps := 900000) (disch := omega) only [s40, go_sem, Nat.reduceEqDiff, ↓reduceIte, reduceCtorEq, Nat.reduceAdd, Nat.reduceMul, Int.reduceToNat, List.reduceReplicate, Nat.reduceLeDiff, Nat.reduceLT, Int.reduceLT, Int.reduceLE, Int.reduceEq])
  repeat' (first | with_reducible refine inw ?_ | simp (maxSteps := 900000) (disch := omega) only [go_sem, Nat.reduceEqDiff, ↓reduceIte, reduceCtorEq, Nat.reduceAdd, Nat.reduceMul, Int.reduceToNat, List.reduceReplicate, Nat.reduceLeDiff, Nat.reduceLT, Int.reduceLT, Int.reduceLE, Int.reduceEq, h1, h2] | (with_reducible apply call (indexFuncS_ok l p g caps hc hp)); (focus simp (maxSteps := 900000) (disch := omega) only [go_sem, Nat.reduceEqDiff, ↓reduceIte, reduceCtorEq, Nat.reduceAdd, Nat.reduceMul, Int.reduceToNat, List.reduceReplicate, Nat.reduceLeDiff, Nat.reduceLT, Int.reduceLT, Int.reduceLE, Int.reduceEq, h1, h2] <;> rfl) | with_reducible refine giv_intro fun _h => ?_ | with_reducible refine alt_intro ?_ fun _h => ?_ | with_reducible refine pickD_nil ?_ | (with_reducible refine brc (fun _h => ?_) fun _h => ?_) <;> first | (exfalso; omega) | simp only [decide_eq_false _h] | simp only [(_h : (_ : Bool) = _)] | simp only [decide_eq_true _h] | skip)
  exact findIdx_anyG
/-- slices.IndexFunc[[]int,int]: 2 parameters, 0 captured -/
def s80 : SC := .seq (.reg [o1 4 (.mv (cI 0))])
  (.seq (.seq (.reg [o1 6 (.mv (.t 0)),
     o1 7 (.lenL (.t 6)),
     o1 8 (.mv (cI 0))])
    (.block 0 (.loop (.seq (.reg [o1 9 (.bin .lss (.t 8) (.t 7))])
       (.seq (.cond (.t 9) (.skip) (.exit 0))
        (.seq (.block 1 (.seq (.reg [o1 10 (.mv (.t 8)),
            o1 5 (.mv (.t 10))])
           (.seq (.reg [o1 11 (.mv (.t 1)),
             o1 12 (.mv (.t 0)),
             o1 13 (.mv (.t 5)),
             o1 14 (.iaddr 1 (.t 12) (.t 13)),
             o1 15 (.load none (.t 14)),
             o1 16 (.call (.t 11) [(.t 15)])])
            (.cond (.t 16) (.seq (.reg [o1 17 (.mv (.t 5)),
               o1 4 (.mv (.t 17))])
              (.ret)) (.skip)))))
         (.reg [o1 18 (.bin .add (.t 8) (cI 1)),
          o1 8 (.mv (.t 18))])))))))
   (.seq (.reg [o1 4 (.mv (cI (-1)))])
    (.ret)))
theorem s80_ok : lookF Try.prog 80 = some (s80, 19, [.tmp 4]) := by kernel_rfl
theorem indexFuncI_ok (l : List Int) (p : Int → Bool) (g : FuncId) (caps : List AV) (hc : ∀ c ∈ caps, AV.Still c) (hp : ∀ x, x ∈ l → Fn P g (intA x :: caps) (boolA (p x))) :
    Fn P 80 [sl l, .clo g caps] (intA (match l.findIdx? p with | some i => (i : Int) | none => -1)) := by
  have h1 := caps_seen hc
  have h2 := caps_bel hc
  (refine fn_look s80_ok (by simp) (by intro k; simp only [go_sem, Nat.reduceEqDiff, ↓reduceIte, reduceCtorEq, Nat.reduceAdd, Nat.reduceMul, Int.reduceToNat, List.reduceReplicate, Nat.reduceLeDiff, Nat.reduceLT, Int.reduceLT, Int.reduceLE, Int.reduceEq]) fun S hS => cwp_sound _ _ _ _ ?_; simp (maxSteps := 900000) (disch := omega) only [s80, go_sem, Nat.reduceEqDiff, ↓reduceIte, reduceCtorEq, Nat.reduceAdd, Nat.reduceMul, Int.reduceToNat, List.reduceReplicate, Nat.reduceLeDiff, Nat.reduceLT, Int.reduceLT, Int.reduceLE, Int.reduceEq])
  repeat' (first | with_reducible refine inw ?_ | simp (maxSteps := 900000) (disch := omega) only [go_sem, Nat.reduceEqDiff, ↓reduceIte, reduceCtorEq, Nat.reduceAdd, Nat.reduceMul, Int.reduceToNat, List.reduceReplicate, Nat.reduceLeDiff, Nat.reduceLT, Int.reduceLT, Int.reduceLE, Int.reduceEq, h1, h2] | with_reducible refine giv_intro fun _h => ?_ | with_reducible refine alt_intro ?_ fun _h => ?_ | with_reducible refine pickD_nil ?_ | (with_reducible refine brc (fun _h => ?_) fun _h => ?_) <;> first | (exfalso; omega) | simp only [decide_eq_false _h] | simp only [(_h : (_ : Bool) = _)] | simp only [decide_eq_true _h] | skip)
  (refine loopC hS [0, 1, 7] (by simp only [go_sem, Nat.reduceEqDiff, ↓reduceIte, reduceCtorEq, Nat.reduceAdd, Nat.reduceMul, Int.reduceToNat, List.reduceReplicate, Nat.reduceLeDiff, Nat.reduceLT, Int.reduceLT, Int.reduceLE, Int.reduceEq]; try rfl) (fun (i : Nat) => [(8, intA i)]) (fun (i : Nat) => []) (fun (i : Nat) => i ≤ l.length ∧ l.findIdx? p = ((l.drop i).findIdx? p).map (· + i)) (fun (i : Nat) => l.length - i) (0) ?h03 ?hn3 ?rd3; case hn3 => (intro s; first | rfl | (rcases s with ⟨_, _⟩; rfl) | (rcases s with ⟨_, _, _⟩; rfl) | (rcases s with ⟨_, _, _, _⟩; rfl) | (rcases s with ⟨_, _, _, _, _⟩; rfl)))
  · simp (maxSteps := 900000) (disch := omega) only [go_sem, Nat.reduceEqDiff, ↓reduceIte, reduceCtorEq, Nat.reduceAdd, Nat.reduceMul, Int.reduceToNat, List.reduceReplicate, Nat.reduceLeDiff, Nat.reduceLT, Int.reduceLT, Int.reduceLE, Int.reduceEq]; simp
  rintro i ⟨hi, hI⟩
  repeat' (first | with_reducible refine inw ?_ | simp (maxSteps := 900000) (disch := omega) only [go_sem, Nat.reduceEqDiff, ↓reduceIte, reduceCtorEq, Nat.reduceAdd, Nat.reduceMul, Int.reduceToNat, List.reduceReplicate, Nat.reduceLeDiff, Nat.reduceLT, Int.reduceLT, Int.reduceLE, Int.reduceEq, h1, h2] | (with_reducible apply call (hp _ (nth_mem (by assumption)))); (focus simp (maxSteps := 900000) (disch := omega) only [go_sem, Nat.reduceEqDiff, ↓reduceIte, reduceCtorEq, Nat.reduceAdd, Nat.reduceMul, Int.reduceToNat, List.reduceReplicate, Nat.reduceLeDiff, Nat.reduceLT, Int.reduceLT, Int.reduceLE, Int.reduceEq, h1, h2] <;> rfl) | with_reducible refine giv_intro fun _h => ?_ | with_reducible refine alt_intro ?_ fun _h => ?_ | with_reducible refine pickD_nil ?_ | (with_reducible refine brc (fun _h => ?_) fun _h => ?_) <;> first | (exfalso; omega) | simp only [decide_eq_false _h] | simp only [(_h : (_ : Bool) = _)] | simp only [decide_eq_true _h] | skip)
  · rw [hI, nth_drop (by assumption)]
    simp_all [List.findIdx?_cons]
  · refine ⟨i + 1, ⟨by omega, by omega, ?_⟩, by omega⟩
    rw [hI, nth_drop (by assumption), List.findIdx?_cons]
    simp_all [Function.comp_def, Nat.add_comm, Nat.add_left_comm]
  · rw [hI, List.drop_eq_nil_of_le (by omega)]; rfl
/-- slices.ContainsFunc[[]int,int]: 2 parameters, 0 captured -/
def s70 : SC := .seq (.reg [o1 4 (.mv (cB false))])
  (.seq (.reg [o1 5 (.mv (.t 0)),
    o1 6 (.mv (.t 1)),
    o1 7 (.call (.f 80) [(.t 5), (.t 6)]),
    o1 8 (.bin .geq (.t 7) (cI 0)),
    o1 4 (.mv (.t 8))])
   (.ret))
theorem s70_ok : lookF Try.prog 70 = some (s70, 9, [.tmp 4]) := by kernel_rfl
theorem containsFuncI_ok (l : List Int) (p : Int → Bool) (g : FuncId) (caps : List AV) (hc : ∀ c ∈ caps, AV.Still c) (hp : ∀ x, x ∈ l → Fn P g (intA x :: caps) (boolA (p x))) : Fn P 70 [sl l, .clo g caps] (boolA (l.any p)) := by
  have h1 := caps_seen hc
  have h2 := caps_bel hc
  (refine fn_look s70_ok (by simp) (by intro k; simp only [go_sem, Nat.reduceEqDiff, ↓reduceIte, reduceCtorEq, Nat.reduceAdd, Nat.reduceMul, Int.reduceToNat, List.reduceReplicate, Nat.reduceLeDiff, Nat.reduceLT, Int.reduceLT, Int.reduceLE, Int.reduceEq]) fun S hS => cwp_sound _ _ _ _ ?_; simp (maxSteps := 900000) (disch := omega) only [s70, go_sem, Nat.reduceEqDiff, ↓reduceIte, reduceCtorEq, Nat.reduceAdd, Nat.reduceMul, Int.reduceToNat, List.reduceReplicate, Nat.reduceLeDiff, Nat.reduceLT, Int.reduceLT, Int.reduceLE, Int.reduceEq])
  repeat' (first | with_reducible refine inw ?_ | simp (maxSteps := 900000) (disch := omega) only [go_sem, Nat.reduceEqDiff, ↓reduceIte, reduceCtorEq, Nat.reduceAdd, Nat.reduceMul, Int.reduceToNat, List.reduceReplicate, Nat.reduceLeDiff, Nat.reduceLT, Int.reduceLT, Int.reduceLE, Int.reduceEq, h1, h2] | (with_reducible apply call (indexFuncI_ok l p g caps hc hp)); (focus simp (maxSteps := 900000) (disch := omega) only [go_sem, Nat.reduceEqDiff, ↓reduceIte, reduceCtorEq, Nat.reduceAdd, Nat.reduceMul, Int.reduceToNat, List.reduceReplicate, Nat.reduceLeDiff, Nat.reduceLT, Int.reduceLT, Int.reduceLE, Int.reduceEq, h1, h2] <;> rfl) | with_reducible refine giv_intro fun _h => ?_ | with_reducible refine alt_intro ?_ fun _h => ?_ | with_reducible refine pickD_nil ?_ | (with_reducible refine brc (fun _h => ?_) fun _h => ?_) <;> first | (exfalso; omega) | simp only [decide_eq_false _h] | simp only [(_h : (_ : Bool) = _)] | simp only [decide_eq_true _h] | skip)
  exact findIdx_anyG

def longC (l : List Change) : Bool := l.any fun c => decide (400 < c.2.2.2.size)
/-- ablaut/learn.Validate$1: 1 parameters, 0 captured -/
def s36 : SC := .seq (.reg [o1 1 (.box 32 4 (.t 0)),
   o1 2 (.mv (cB false))])
  (.seq (.reg [o1 3 (.faddr 3 (.t 1)),
    o1 4 (.load none (.t 3)),
    o1 5 (.lenS (.t 4)),
    o1 6 (.bin .gtr (.t 5) (cI 400)),
    o1 2 (.mv (.t 6))])
   (.ret))
theorem s36_ok : lookF Try.prog 36 = some (s36, 7, [.tmp 2]) := by kernel_rfl
theorem val1_ok (c : Change) : Fn P 36 [chA c] (boolA (decide (400 < c.2.2.2.size))) := by
  (refine fn_look s36_ok (by simp) (by intro k; simp only [go_sem, Nat.reduceEqDiff, ↓reduceIte, reduceCtorEq, Nat.reduceAdd, Nat.reduceMul, Int.reduceToNat, List.reduceReplicate, Nat.reduceLeDiff, Nat.reduceLT, Int.reduceLT, Int.reduceLE, Int.reduceEq]) fun S hS => cwp_sound _ _ _ _ ?_; simp (maxSteps := 900000) (disch := omega) only [s36, go_sem, Nat.reduceEqDiff, ↓reduceIte, reduceCtorEq, Nat.reduceAdd, Nat.reduceMul, Int.reduceToNat, List.reduceReplicate, Nat.reduceLeDiff, Nat.reduceLT, Int.reduceLT, Int.reduceLE, Int.reduceEq])
  repeat' (first | with_reducible refine inw ?_ | simp (maxSteps := 900000) (disch := omega) only [go_sem, Nat.reduceEqDiff, ↓reduceIte, reduceCtorEq, Nat.reduceAdd, Nat.reduceMul, Int.reduceToNat, List.reduceReplicate, Nat.reduceLeDiff, Nat.reduceLT, Int.reduceLT, Int.reduceLE, Int.reduceEq] | with_reducible refine giv_intro fun _h => ?_ | with_reducible refine alt_intro ?_ fun _h => ?_ | with_reducible refine pickD_nil ?_ | (with_reducible refine brc (fun _h => ?_) fun _h => ?_) <;> first | (exfalso; omega) | simp only [decide_eq_false _h] | simp only [(_h : (_ : Bool) = _)] | simp only [decide_eq_true _h] | skip)
  rw [Bool.eq_iff_iff]; simp; omega
/-- ablaut/learn.ValidateLessons$1: 1 parameters, 0 captured -/
def s41 : SC := .seq (.reg [o1 2 (.mv (cB false))])
  (.seq (.reg [o1 3 (.mv (.t 0)),
    o1 4 (.lenS (.t 3)),
    o1 5 (.bin .gtr (.t 4) (cI 400)),
    o1 2 (.mv (.t 5))])
   (.ret))
theorem s41_ok : lookF Try.prog 41 = some (s41, 6, [.tmp 2]) := by kernel_rfl
theorem valL1_ok (s : Str) : Fn P 41 [strA s] (boolA (decide (400 < s.size))) := by
  (refine fn_look s41_ok (by simp) (by intro k; simp only [go_sem, Nat.reduceEqDiff, ↓reduceIte, reduceCtorEq, Nat.reduceAdd, Nat.reduceMul, Int.reduceToNat, List.reduceReplicate, Nat.reduceLeDiff, Nat.reduceLT, Int.reduceLT, Int.reduceLE, Int.reduceEq]) fun S hS => cwp_sound _ _ _ _ ?_; simp (maxSteps := 900000) (disch := omega) only [s41, go_sem, Nat.reduceEqDiff, ↓reduceIte, reduceCtorEq, Nat.reduceAdd, Nat.reduceMul, Int.reduceToNat, List.reduceReplicate, Nat.reduceLeDiff, Nat.reduceLT, Int.reduceLT, Int.reduceLE, Int.reduceEq])
  repeat' (first | with_reducible refine inw ?_ | simp (maxSteps := 900000) (disch := omega) only [go_sem, Nat.reduceEqDiff, ↓reduceIte, reduceCtorEq, Nat.reduceAdd, Nat.reduceMul, Int.reduceToNat, List.reduceReplicate, Nat.reduceLeDiff, Nat.reduceLT, Int.reduceLT, Int.reduceLE, Int.reduceEq] | with_reducible refine giv_intro fun _h => ?_ | with_reducible refine alt_intro ?_ fun _h => ?_ | with_reducible refine pickD_nil ?_ | (with_reducible refine brc (fun _h => ?_) fun _h => ?_) <;> first | (exfalso; omega) | simp only [decide_eq_false _h] | simp only [(_h : (_ : Bool) = _)] | simp only [decide_eq_true _h] | skip)
  rw [Bool.eq_iff_iff]; simp; omega
def chB (c : Change) : Bool := nameB c.1 && nameB c.2.1 && !decide (c.1 = c.2.1) && decide (0 ≤ c.2.2.1) && decide (c.2.2.1 ≤ 9) && argB c
/-- ablaut/ablautref22.isChange: 1 parameters, 0 captured -/
def s39 : SC := .seq (.reg [o1 1 (.box 32 4 (.t 0)),
   o1 2 (.mv (cB false))])
  (.seq (.seq (.reg [o1 3 (.faddr 0 (.t 1)),
     o1 4 (.load none (.t 3)),
     o1 5 (.call (.f 43) [(.t 4)]),
     o1 6 (.un .not (.t 5)),
     o1 7 (.mv (.t 6)),
     oF 8 (.faddr 1 (.t 1)) 7,
     oF 9 (.load none (.t 8)) 7,
     oF 10 (.call (.f 43) [(.t 9)]) 7,
     oF 11 (.un .not (.t 10)) 7,
     o1 12 (.pick (.t 7) (cB true) (.t 11)),
     o1 13 (.mv (.t 12)),
     oF 14 (.faddr 0 (.t 1)) 13,
     oF 15 (.load none (.t 14)) 13,
     oF 16 (.faddr 1 (.t 1)) 13,
     oF 17 (.load none (.t 16)) 13,
     oF 18 (.bin .eql (.t 15) (.t 17)) 13,
     o1 19 (.pick (.t 13) (cB true) (.t 18)),
     o1 20 (.mv (.t 19)),
     oF 21 (.faddr 2 (.t 1)) 20,
     oF 22 (.load none (.t 21)) 20,
     oF 23 (.bin .lss (.t 22) (cI 0)) 20,
     o1 24 (.pick (.t 20) (cB true) (.t 23)),
     o1 25 (.mv (.t 24)),
     oF 26 (.faddr 2 (.t 1)) 25,
     oF 27 (.load none (.t 26)) 25,
     oF 28 (.bin .gtr (.t 27) (cI 9)) 25,
     o1 29 (.pick (.t 25) (cB true) (.t 28))])
    (.cond (.t 29) (.seq (.reg [o1 2 (.mv (cB false))])
      (.ret)) (.skip)))
   (.seq (.block 0 (.seq (.reg [o1 31 (.faddr 2 (.t 1)),
       o1 32 (.load none (.t 31)),
       o1 33 (.bin .leq (.t 32) (cI 5)),
       o1 30 (.mv (.t 33))])
      (.cond (.t 30) (.seq (.reg [o1 34 (.faddr 3 (.t 1)),
         o1 35 (.load none (.t 34)),
         o1 36 (.call (.f 43) [(.t 35)]),
         o1 2 (.mv (.t 36))])
        (.ret)) (.seq (.reg [o1 38 (.faddr 2 (.t 1)),
         o1 39 (.load none (.t 38)),
         o1 40 (.bin .eql (.t 39) (cI 9)),
         o1 37 (.mv (.t 40))])
        (.cond (.t 37) (.seq (.reg [o1 41 (.faddr 3 (.t 1)),
           o1 42 (.load none (.t 41)),
           o1 43 (.bin .eql (.t 42) (.c (.string ⟨#[]⟩))),
           o1 2 (.mv (.t 43))])
          (.ret)) (.skip))))))
    (.seq (.reg [o1 44 (.faddr 3 (.t 1)),
      o1 45 (.load none (.t 44)),
      o1 46 (.call (.f 63) [(.t 45)]),
      o1 2 (.mv (.t 46))])
     (.ret))))
theorem s39_ok : lookF Try.prog 39 = some (s39, 47, [.tmp 2]) := by kernel_rfl
theorem isChange_ok (c : Change) (hs : SmC c) : Fn P 39 [chA c] (boolA (chB c)) := by
  have c1 := IsName_ok c.1 hs.1
  have c2 := IsName_ok c.2.1 hs.2.1
  have c3 := IsName_ok c.2.2.2 hs.2.2
  have c4 := isSigned_ok c.2.2.2 hs.2.2
  (refine fn_look s39_ok (by simp) (by intro k; simp only [go_sem, Nat.reduceEqDiff, ↓reduceIte, reduceCtorEq, Nat.reduceAdd, Nat.reduceMul, Int.reduceToNat, List.reduceReplicate, Nat.reduceLeDiff, Nat.reduceLT, Int.reduceLT, Int.reduceLE, Int.reduceEq]) fun S hS => cwp_sound _ _ _ _ ?_; simp (maxSteps := 900000) (disch := omega) only [s39, go_sem, Nat.reduceEqDiff, ↓reduceIte, reduceCtorEq, Nat.reduceAdd, Nat.reduceMul, Int.reduceToNat, List.reduceReplicate, Nat.reduceLeDiff, Nat.reduceLT, Int.reduceLT, Int.reduceLE, Int.reduceEq])
  repeat' (first | with_reducible refine inw ?_ | simp (maxSteps := 900000) (disch := omega) only [go_sem, Nat.reduceEqDiff, ↓reduceIte, reduceCtorEq, Nat.reduceAdd, Nat.reduceMul, Int.reduceToNat, List.reduceReplicate, Nat.reduceLeDiff, Nat.reduceLT, Int.reduceLT, Int.reduceLE, Int.reduceEq] | (with_reducible apply call (c1)); (focus simp (maxSteps := 900000) (disch := omega) only [go_sem, Nat.reduceEqDiff, ↓reduceIte, reduceCtorEq, Nat.reduceAdd, Nat.reduceMul, Int.reduceToNat, List.reduceReplicate, Nat.reduceLeDiff, Nat.reduceLT, Int.reduceLT, Int.reduceLE, Int.reduceEq] <;> rfl) | (with_reducible apply call (c2)); (focus simp (maxSteps := 900000) (disch := omega) only [go_sem, Nat.reduceEqDiff, ↓reduceIte, reduceCtorEq, Nat.reduceAdd, Nat.reduceMul, Int.reduceToNat, List.reduceReplicate, Nat.reduceLeDiff, Nat.reduceLT, Int.reduceLT, Int.reduceLE, Int.reduceEq] <;> rfl) | (with_reducible apply call (c3)); (focus simp (maxSteps := 900000) (disch := omega) only [go_sem, Nat.reduceEqDiff, ↓reduceIte, reduceCtorEq, Nat.reduceAdd, Nat.reduceMul, Int.reduceToNat, List.reduceReplicate, Nat.reduceLeDiff, Nat.reduceLT, Int.reduceLT, Int.reduceLE, Int.reduceEq] <;> rfl) | (with_reducible apply call (c4)); (focus simp (maxSteps := 900000) (disch := omega) only [go_sem, Nat.reduceEqDiff, ↓reduceIte, reduceCtorEq, Nat.reduceAdd, Nat.reduceMul, Int.reduceToNat, List.reduceReplicate, Nat.reduceLeDiff, Nat.reduceLT, Int.reduceLT, Int.reduceLE, Int.reduceEq] <;> rfl) | with_reducible refine giv_intro fun _h => ?_ | with_reducible refine alt_intro ?_ fun _h => ?_ | with_reducible refine pickD_nil ?_ | (with_reducible refine brc (fun _h => ?_) fun _h => ?_) <;> first | (exfalso; omega) | simp only [decide_eq_false _h] | simp only [(_h : (_ : Bool) = _)] | simp only [decide_eq_true _h] | skip)
  all_goals first
    | (rw [chB]; simp [*]; done)
    | (rw [chB]; simp [*]; omega)
    | (have k1 : 0 ≤ c.2.2.1 := by omega
       have k2 : c.2.2.1 ≤ 9 := by omega
       rw [chB, argB]; simp [*]; done)
    | (have k1 : ¬c.2.2.1 ≤ 5 := by omega
       have k2 : ¬c.2.2.1 ≤ 8 := by omega
       have k3 : c.2.2.1 ≤ 9 := by omega
       have k4 : 0 ≤ c.2.2.1 := by omega
       rw [chB, argB]; simp [*]; done)
    | (have k1 : ¬c.2.2.1 ≤ 5 := by omega
       have k2 : c.2.2.1 ≤ 8 := by omega
       have k3 : c.2.2.1 ≤ 9 := by omega
       have k4 : 0 ≤ c.2.2.1 := by omega
       rw [chB, argB]; simp [*]; done)
def valC (l : List Change) : Int := if 24 < l.length then 3 else if longC l = true then 3 else if l.all chB = true then 0 else 1
theorem all_no {α : Type} {k : Nat} [Enc α k] {l : List α} {p : α → Bool} {i : Nat} (hi : i < l.length) (h : p (nth l i) = false) : l.all p = false := by
  rw [← Bool.not_eq_true]; intro h2
  rw [List.all_eq_true] at h2
  rw [h2 _ (nth_mem hi)] at h; cases h
theorem all_nth {α : Type} {k : Nat} [Enc α k] {l : List α} {p : α → Bool} (h : ∀ j, j < l.length → p (nth l j) = true) : l.all p = true := by
  rw [List.all_eq_true]; intro x hx
  obtain ⟨i, hi, rfl⟩ := List.mem_iff_getElem.1 hx
  have := h i hi
  rwa [nth_eq hi] at this
theorem any_yes {α : Type} {k : Nat} [Enc α k] {l : List α} {p : α → Bool} {i : Nat} (hi : i < l.length) (h : p (nth l i) = true) : l.any p = true := List.any_eq_true.2 ⟨_, nth_mem hi, h⟩
theorem any_no {α : Type} {k : Nat} [Enc α k] {l : List α} {p : α → Bool} (h : ∀ j, j < l.length → p (nth l j) = false) : l.any p = false := by
  rw [← Bool.not_eq_true]; intro h2
  obtain ⟨x, hx, h3⟩ := List.any_eq_true.1 h2
  obtain ⟨i, hi, rfl⟩ := List.mem_iff_getElem.1 hx
  have := h i hi
  rw [nth_eq hi, h3] at this; cases this
/-- ablaut/learn.Validate: 1 parameters, 0 captured -/
def s13 : SC := .seq (.reg [o1 2 (.mv (cI 0))])
  (.seq (.seq (.reg [o1 5 (.mv (.t 0)),
     o1 6 (.lenL (.t 5)),
     o1 7 (.bin .gtr (.t 6) (cI 24)),
     o1 8 (.mv (.t 7)),
     oF 9 (.mv (.t 0)) 8,
     oF 10 (.call (.f 35) [(.t 9), (.f 36)]) 8,
     o1 11 (.pick (.t 8) (cB true) (.t 10))])
    (.cond (.t 11) (.seq (.reg [o1 2 (.mv (cI 3))])
      (.ret)) (.skip)))
   (.seq (.seq (.reg [o1 12 (.mv (.t 0)),
      o1 13 (.lenL (.t 12)),
      o1 14 (.mv (cI 0))])
     (.block 0 (.loop (.seq (.reg [o1 15 (.bin .lss (.t 14) (.t 13))])
        (.seq (.cond (.t 15) (.skip) (.exit 0))
         (.seq (.block 1 (.seq (.reg [o1 16 (.iaddr 4 (.t 12) (.t 14)),
             o1 17 (.load (some 4) (.t 16)),
             o1 4 (.alloc 32 4 [(.string ⟨#[]⟩), (.string ⟨#[]⟩), (.int .i64 0), (.string ⟨#[]⟩)]),
             o0 (.store 4 (.t 4) (.t 17))])
            (.seq (.reg [o1 18 (.faddr 0 (.t 4)),
              o1 19 (.load none (.t 18)),
              o1 20 (.call (.f 37) [(.t 19)]),
              o1 21 (.un .not (.t 20)),
              o1 22 (.mv (.t 21)),
              oF 23 (.faddr 1 (.t 4)) 22,
              oF 24 (.load none (.t 23)) 22,
              oF 25 (.call (.f 37) [(.t 24)]) 22,
              oF 26 (.un .not (.t 25)) 22,
              o1 27 (.pick (.t 22) (cB true) (.t 26)),
              o1 28 (.mv (.t 27)),
              oF 29 (.faddr 0 (.t 4)) 28,
              oF 30 (.load none (.t 29)) 28,
              oF 31 (.faddr 1 (.t 4)) 28,
              oF 32 (.load none (.t 31)) 28,
              oF 33 (.bin .eql (.t 30) (.t 32)) 28,
              o1 34 (.pick (.t 28) (cB true) (.t 33)),
              o1 35 (.mv (.t 34)),
              oF 36 (.faddr 2 (.t 4)) 35,
              oF 37 (.load none (.t 36)) 35,
              oF 38 (.bin .lss (.t 37) (cI 0)) 35,
              o1 39 (.pick (.t 35) (cB true) (.t 38)),
              o1 40 (.mv (.t 39)),
              oF 41 (.faddr 2 (.t 4)) 40,
              oF 42 (.load none (.t 41)) 40,
              oF 43 (.bin .gtr (.t 42) (cI 9)) 40,
              o1 44 (.pick (.t 40) (cB true) (.t 43)),
              o1 45 (.mv (.t 44)),
              oF 46 (.load (some 4) (.t 4)) 45,
              oF 47 (.call (.f 38) [(.t 46)]) 45,
              oF 48 (.un .not (.t 47)) 45,
              o1 49 (.pick (.t 45) (cB true) (.t 48))])
             (.cond (.t 49) (.seq (.reg [o1 2 (.mv (cI 1))])
               (.ret)) (.skip)))))
          (.reg [o1 50 (.bin .add (.t 14) (cI 1)),
           o1 14 (.mv (.t 50))])))))))
    (.seq (.reg [o1 2 (.mv (cI 0))])
     (.ret))))
theorem s13_ok : lookF Try.prog 13 = some (s13, 51, [.tmp 2]) := by kernel_rfl
set_option maxHeartbeats 1000000 in
theorem validate_ok (l : List Change) (hs : ∀ c ∈ l, SmC c) : Fn P 13 [sl l] (intA (valC l)) := by
  have c1 := containsFuncC_ok l (fun c => decide (400 < c.2.2.2.size)) 36 [] (by simp) (fun c _ => val1_ok c)
  by_cases h1 : 24 < l.length
  · rw [valC, if_pos h1]
    (refine fn_look s13_ok (by simp) (by intro k; simp only [go_sem, Nat.reduceEqDiff, ↓reduceIte, reduceCtorEq, Nat.reduceAdd, Nat.reduceMul, Int.reduceToNat, List.reduceReplicate, Nat.reduceLeDiff, Nat.reduceLT, Int.reduceLT, Int.reduceLE, Int.reduceEq]) fun S hS => cwp_sound _ _ _ _ ?_; simp (maxSteps := 900000) (disch := omega) only [s13, go_sem, Nat.reduceEqDiff, ↓reduceIte, reduceCtorEq, Nat.reduceAdd, Nat.reduceMul, Int.reduceToNat, List.reduceReplicate, Nat.reduceLeDiff, Nat.reduceLT, Int.reduceLT, Int.reduceLE, Int.reduceEq])
    repeat' (first | with_reducible refine inw ?_ | simp (maxSteps := 900000) (disch := omega) only [go_sem, Nat.reduceEqDiff, ↓reduceIte, reduceCtorEq, Nat.reduceAdd, Nat.reduceMul, Int.reduceToNat, List.reduceReplicate, Nat.reduceLeDiff, Nat.reduceLT, Int.reduceLT, Int.reduceLE, Int.reduceEq] | with_reducible refine giv_intro fun _h => ?_ | with_reducible refine alt_intro ?_ fun _h => ?_ | with_reducible refine pickD_nil ?_ | (with_reducible refine brc (fun _h => ?_) fun _h => ?_) <;> first | (exfalso; omega) | simp only [decide_eq_false _h] | simp only [(_h : (_ : Bool) = _)] | simp only [decide_eq_true _h] | skip)
  · cases h2 : longC l
    · rw [show (l.any fun c => decide (400 < c.2.2.2.size)) = false from h2] at c1
      rw [valC, if_neg h1, if_neg (by rw [h2]; simp)]
      (refine fn_look s13_ok (by simp) (by intro k; simp only [go_sem, Nat.reduceEqDiff, ↓reduceIte, reduceCtorEq, Nat.reduceAdd, Nat.reduceMul, Int.reduceToNat, List.reduceReplicate, Nat.reduceLeDiff, Nat.reduceLT, Int.reduceLT, Int.reduceLE, Int.reduceEq]) fun S hS => cwp_sound _ _ _ _ ?_; simp (maxSteps := 900000) (disch := omega) only [s13, go_sem, Nat.reduceEqDiff, ↓reduceIte, reduceCtorEq, Nat.reduceAdd, Nat.reduceMul, Int.reduceToNat, List.reduceReplicate, Nat.reduceLeDiff, Nat.reduceLT, Int.reduceLT, Int.reduceLE, Int.reduceEq])
      repeat' (first | with_reducible refine inw ?_ | simp (maxSteps := 900000) (disch := omega) only [go_sem, Nat.reduceEqDiff, ↓reduceIte, reduceCtorEq, Nat.reduceAdd, Nat.reduceMul, Int.reduceToNat, List.reduceReplicate, Nat.reduceLeDiff, Nat.reduceLT, Int.reduceLT, Int.reduceLE, Int.reduceEq] | (with_reducible apply call (c1)); (focus simp (maxSteps := 900000) (disch := omega) only [go_sem, Nat.reduceEqDiff, ↓reduceIte, reduceCtorEq, Nat.reduceAdd, Nat.reduceMul, Int.reduceToNat, List.reduceReplicate, Nat.reduceLeDiff, Nat.reduceLT, Int.reduceLT, Int.reduceLE, Int.reduceEq] <;> rfl) | with_reducible refine giv_intro fun _h => ?_ | with_reducible refine alt_intro ?_ fun _h => ?_ | with_reducible refine pickD_nil ?_ | (with_reducible refine brc (fun _h => ?_) fun _h => ?_) <;> first | (exfalso; omega) | simp only [decide_eq_false _h] | simp only [(_h : (_ : Bool) = _)] | simp only [decide_eq_true _h] | skip)
      (refine loopC hS [12, 13] (by simp only [go_sem, Nat.reduceEqDiff, ↓reduceIte, reduceCtorEq, Nat.reduceAdd, Nat.reduceMul, Int.reduceToNat, List.reduceReplicate, Nat.reduceLeDiff, Nat.reduceLT, Int.reduceLT, Int.reduceLE, Int.reduceEq]; try rfl) (fun (i : Nat) => [(14, intA i)]) (fun (i : Nat) => []) (fun (i : Nat) => i ≤ l.length ∧ ∀ j, j < i → chB (nth l j) = true) (fun (i : Nat) => l.length - i) (0) ?h04 ?hn4 ?rd4; case hn4 => (intro s; first | rfl | (rcases s with ⟨_, _⟩; rfl) | (rcases s with ⟨_, _, _⟩; rfl) | (rcases s with ⟨_, _, _, _⟩; rfl) | (rcases s with ⟨_, _, _, _, _⟩; rfl)))
      · simp (maxSteps := 900000) (disch := omega) only [go_sem, Nat.reduceEqDiff, ↓reduceIte, reduceCtorEq, Nat.reduceAdd, Nat.reduceMul, Int.reduceToNat, List.reduceReplicate, Nat.reduceLeDiff, Nat.reduceLT, Int.reduceLT, Int.reduceLE, Int.reduceEq]; simp
      rintro i ⟨hi, hall⟩
      replace hi : i ≤ l.length := hi
      replace hall : ∀ j, j < i → chB (nth l j) = true := hall
      by_cases hil : i < l.length
      · have hm := hs _ (nth_mem hil)
        have d1 := isName_ok (nth l i).1 hm.1
        have d2 := isName_ok (nth l i).2.1 hm.2.1
        have d3 := isArg_ok (nth l i) hm
        have no : chB (nth l i) = false → (1 : Int) = if l.all chB = true then 0 else 1 := fun h => by rw [all_no hil h]; rfl
        repeat' (first | with_reducible refine inw ?_ | simp (maxSteps := 900000) (disch := omega) only [go_sem, Nat.reduceEqDiff, ↓reduceIte, reduceCtorEq, Nat.reduceAdd, Nat.reduceMul, Int.reduceToNat, List.reduceReplicate, Nat.reduceLeDiff, Nat.reduceLT, Int.reduceLT, Int.reduceLE, Int.reduceEq] | (with_reducible apply call (d1)); (focus simp (maxSteps := 900000) (disch := omega) only [go_sem, Nat.reduceEqDiff, ↓reduceIte, reduceCtorEq, Nat.reduceAdd, Nat.reduceMul, Int.reduceToNat, List.reduceReplicate, Nat.reduceLeDiff, Nat.reduceLT, Int.reduceLT, Int.reduceLE, Int.reduceEq] <;> rfl) | (with_reducible apply call (d2)); (focus simp (maxSteps := 900000) (disch := omega) only [go_sem, Nat.reduceEqDiff, ↓reduceIte, reduceCtorEq, Nat.reduceAdd, Nat.reduceMul, Int.reduceToNat, List.reduceReplicate, Nat.reduceLeDiff, Nat.reduceLT, Int.reduceLT, Int.reduceLE, Int.reduceEq] <;> rfl) | (with_reducible apply call (d3)); (focus simp (maxSteps := 900000) (disch := omega) only [go_sem, Nat.reduceEqDiff, ↓reduceIte, reduceCtorEq, Nat.reduceAdd, Nat.reduceMul, Int.reduceToNat, List.reduceReplicate, Nat.reduceLeDiff, Nat.reduceLT, Int.reduceLT, Int.reduceLE, Int.reduceEq] <;> rfl) | with_reducible refine giv_intro fun _h => ?_ | with_reducible refine alt_intro ?_ fun _h => ?_ | with_reducible refine pickD_nil ?_ | (with_reducible refine brc (fun _h => ?_) fun _h => ?_) <;> first | (exfalso; omega) | simp only [decide_eq_false _h] | simp only [(_h : (_ : Bool) = _)] | simp only [decide_eq_true _h] | skip)
        all_goals first
          | (refine ⟨i + 1, ⟨by omega, by omega, allN_step hall ?_⟩, by omega⟩
             have k1 : 0 ≤ (nth l i).2.2.1 := by omega
             have k2 : (nth l i).2.2.1 ≤ 9 := by omega
             rw [chB]; simp [*]; done)
          | (refine no ?_; rw [chB]; simp [*]; done)
          | (refine no ?_; rw [chB]; simp [*]; omega)
      · rw [all_nth (fun j hj => hall j (by omega))]
        repeat' (first | with_reducible refine inw ?_ | simp (maxSteps := 900000) (disch := omega) only [go_sem, Nat.reduceEqDiff, ↓reduceIte, reduceCtorEq, Nat.reduceAdd, Nat.reduceMul, Int.reduceToNat, List.reduceReplicate, Nat.reduceLeDiff, Nat.reduceLT, Int.reduceLT, Int.reduceLE, Int.reduceEq] | with_reducible refine giv_intro fun _h => ?_ | with_reducible refine alt_intro ?_ fun _h => ?_ | with_reducible refine pickD_nil ?_ | (with_reducible refine brc (fun _h => ?_) fun _h => ?_) <;> first | (exfalso; omega) | simp only [decide_eq_false _h] | simp only [(_h : (_ : Bool) = _)] | simp only [decide_eq_true _h] | skip)
    · rw [show (l.any fun c => decide (400 < c.2.2.2.size)) = true from h2] at c1
      rw [valC, if_neg h1, if_pos h2]
      (refine fn_look s13_ok (by simp) (by intro k; simp only [go_sem, Nat.reduceEqDiff, ↓reduceIte, reduceCtorEq, Nat.reduceAdd, Nat.reduceMul, Int.reduceToNat, List.reduceReplicate, Nat.reduceLeDiff, Nat.reduceLT, Int.reduceLT, Int.reduceLE, Int.reduceEq]) fun S hS => cwp_sound _ _ _ _ ?_; simp (maxSteps := 900000) (disch := omega) only [s13, go_sem, Nat.reduceEqDiff, ↓reduceIte, reduceCtorEq, Nat.reduceAdd, Nat.reduceMul, Int.reduceToNat, List.reduceReplicate, Nat.reduceLeDiff, Nat.reduceLT, Int.reduceLT, Int.reduceLE, Int.reduceEq])
      repeat' (first | with_reducible refine inw ?_ | simp (maxSteps := 900000) (disch := omega) only [go_sem, Nat.reduceEqDiff, ↓reduceIte, reduceCtorEq, Nat.reduceAdd, Nat.reduceMul, Int.reduceToNat, List.reduceReplicate, Nat.reduceLeDiff, Nat.reduceLT, Int.reduceLT, Int.reduceLE, Int.reduceEq] | (with_reducible apply call (c1)); (focus simp (maxSteps := 900000) (disch := omega) only [go_sem, Nat.reduceEqDiff, ↓reduceIte, reduceCtorEq, Nat.reduceAdd, Nat.reduceMul, Int.reduceToNat, List.reduceReplicate, Nat.reduceLeDiff, Nat.reduceLT, Int.reduceLT, Int.reduceLE, Int.reduceEq] <;> rfl) | with_reducible refine giv_intro fun _h => ?_ | with_reducible refine alt_intro ?_ fun _h => ?_ | with_reducible refine pickD_nil ?_ | (with_reducible refine brc (fun _h => ?_) fun _h => ?_) <;> first | (exfalso; omega) | simp only [decide_eq_false _h] | simp only [(_h : (_ : Bool) = _)] | simp only [decide_eq_true _h] | skip)
/-- ablaut/ablautref22.Validate: 1 parameters, 0 captured -/
def s14 : SC := .seq (.reg [o1 2 (.mv (cI 0))])
  (.seq (.seq (.reg [o1 5 (.mv (.t 0)),
     o1 6 (.lenL (.t 5)),
     o1 7 (.bin .gtr (.t 6) (cI 24))])
    (.cond (.t 7) (.seq (.reg [o1 2 (.mv (cI 3))])
      (.ret)) (.skip)))
   (.seq (.seq (.reg [o1 3 (.mv (cI 0))])
     (.block 0 (.loop (.seq (.seq (.reg [o1 8 (.mv (.t 3)),
          o1 9 (.mv (.t 0)),
          o1 10 (.lenL (.t 9)),
          o1 11 (.bin .lss (.t 8) (.t 10))])
         (.cond (.t 11) (.skip) (.exit 0)))
        (.seq (.block 1 (.seq (.reg [o1 14 (.mv (.t 0)),
            o1 15 (.mv (.t 3)),
            o1 16 (.iaddr 4 (.t 14) (.t 15)),
            o1 17 (.faddr 3 (.t 16)),
            o1 18 (.load none (.t 17)),
            o1 19 (.lenS (.t 18)),
            o1 20 (.bin .gtr (.t 19) (cI 400))])
           (.cond (.t 20) (.seq (.reg [o1 2 (.mv (cI 3))])
             (.ret)) (.skip))))
         (.reg [o1 12 (.mv (.t 3)),
          o1 13 (.bin .add (.t 12) (cI 1)),
          o1 3 (.mv (.t 13))]))))))
    (.seq (.seq (.reg [o1 4 (.mv (cI 0))])
      (.block 2 (.loop (.seq (.seq (.reg [o1 21 (.mv (.t 4)),
           o1 22 (.mv (.t 0)),
           o1 23 (.lenL (.t 22)),
           o1 24 (.bin .lss (.t 21) (.t 23))])
          (.cond (.t 24) (.skip) (.exit 2)))
         (.seq (.block 3 (.seq (.reg [o1 27 (.mv (.t 0)),
             o1 28 (.mv (.t 4)),
             o1 29 (.iaddr 4 (.t 27) (.t 28)),
             o1 30 (.load (some 4) (.t 29)),
             o1 31 (.call (.f 39) [(.t 30)]),
             o1 32 (.un .not (.t 31))])
            (.cond (.t 32) (.seq (.reg [o1 2 (.mv (cI 1))])
              (.ret)) (.skip))))
          (.reg [o1 25 (.mv (.t 4)),
           o1 26 (.bin .add (.t 25) (cI 1)),
           o1 4 (.mv (.t 26))]))))))
     (.seq (.reg [o1 2 (.mv (cI 0))])
      (.ret)))))
theorem s14_ok : lookF Try.prog 14 = some (s14, 33, [.tmp 2]) := by kernel_rfl
set_option maxHeartbeats 1000000 in
theorem rValidate_ok (l : List Change) (hs : ∀ c ∈ l, SmC c) : Fn P 14 [sl l] (intA (valC l)) := by
  by_cases h1 : 24 < l.length
  · rw [valC, if_pos h1]
    (refine fn_look s14_ok (by simp) (by intro k; simp only [go_sem, Nat.reduceEqDiff, ↓reduceIte, reduceCtorEq, Nat.reduceAdd, Nat.reduceMul, Int.reduceToNat, List.reduceReplicate, Nat.reduceLeDiff, Nat.reduceLT, Int.reduceLT, Int.reduceLE, Int.reduceEq]) fun S hS => cwp_sound _ _ _ _ ?_; simp (maxSteps := 900000) (disch := omega) only [s14, go_sem, Nat.reduceEqDiff, ↓reduceIte, reduceCtorEq, Nat.reduceAdd, Nat.reduceMul, Int.reduceToNat, List.reduceReplicate, Nat.reduceLeDiff, Nat.reduceLT, Int.reduceLT, Int.reduceLE, Int.reduceEq])
    repeat' (first | with_reducible refine inw ?_ | simp (maxSteps := 900000) (disch := omega) only [go_sem, Nat.reduceEqDiff, ↓reduceIte, reduceCtorEq, Nat.reduceAdd, Nat.reduceMul, Int.reduceToNat, List.reduceReplicate, Nat.reduceLeDiff, Nat.reduceLT, Int.reduceLT, Int.reduceLE, Int.reduceEq] | with_reducible refine giv_intro fun _h => ?_ | with_reducible refine alt_intro ?_ fun _h => ?_ | with_reducible refine pickD_nil ?_ | (with_reducible refine brc (fun _h => ?_) fun _h => ?_) <;> first | (exfalso; omega) | simp only [decide_eq_false _h] | simp only [(_h : (_ : Bool) = _)] | simp only [decide_eq_true _h] | skip)
  · rw [valC, if_neg h1]
    (refine fn_look s14_ok (by simp) (by intro k; simp only [go_sem, Nat.reduceEqDiff, ↓reduceIte, reduceCtorEq, Nat.reduceAdd, Nat.reduceMul, Int.reduceToNat, List.reduceReplicate, Nat.reduceLeDiff, Nat.reduceLT, Int.reduceLT, Int.reduceLE, Int.reduceEq]) fun S hS => cwp_sound _ _ _ _ ?_; simp (maxSteps := 900000) (disch := omega) only [s14, go_sem, Nat.reduceEqDiff, ↓reduceIte, reduceCtorEq, Nat.reduceAdd, Nat.reduceMul, Int.reduceToNat, List.reduceReplicate, Nat.reduceLeDiff, Nat.reduceLT, Int.reduceLT, Int.reduceLE, Int.reduceEq])
    repeat' (first | with_reducible refine inw ?_ | simp (maxSteps := 900000) (disch := omega) only [go_sem, Nat.reduceEqDiff, ↓reduceIte, reduceCtorEq, Nat.reduceAdd, Nat.reduceMul, Int.reduceToNat, List.reduceReplicate, Nat.reduceLeDiff, Nat.reduceLT, Int.reduceLT, Int.reduceLE, Int.reduceEq] | with_reducible refine giv_intro fun _h => ?_ | with_reducible refine alt_intro ?_ fun _h => ?_ | with_reducible refine pickD_nil ?_ | (with_reducible refine brc (fun _h => ?_) fun _h => ?_) <;> first | (exfalso; omega) | simp only [decide_eq_false _h] | simp only [(_h : (_ : Bool) = _)] | simp only [decide_eq_true _h] | skip)
    (refine loopC hS [0] (by simp only [go_sem, Nat.reduceEqDiff, ↓reduceIte, reduceCtorEq, Nat.reduceAdd, Nat.reduceMul, Int.reduceToNat, List.reduceReplicate, Nat.reduceLeDiff, Nat.reduceLT, Int.reduceLT, Int.reduceLE, Int.reduceEq]; try rfl) (fun (i : Nat) => [(3, intA i)]) (fun (i : Nat) => []) (fun (i : Nat) => i ≤ l.length ∧ ∀ j, j < i → (decide (400 < (nth l j).2.2.2.size)) = false) (fun (i : Nat) => l.length - i) (0) ?h05 ?hn5 ?rd5; case hn5 => (intro s; first | rfl | (rcases s with ⟨_, _⟩; rfl) | (rcases s with ⟨_, _, _⟩; rfl) | (rcases s with ⟨_, _, _, _⟩; rfl) | (rcases s with ⟨_, _, _, _, _⟩; rfl)))
    · simp (maxSteps := 900000) (disch := omega) only [go_sem, Nat.reduceEqDiff, ↓reduceIte, reduceCtorEq, Nat.reduceAdd, Nat.reduceMul, Int.reduceToNat, List.reduceReplicate, Nat.reduceLeDiff, Nat.reduceLT, Int.reduceLT, Int.reduceLE, Int.reduceEq]; simp
    rintro i ⟨hi, hall⟩
    replace hi : i ≤ l.length := hi
    replace hall : ∀ j, j < i → (decide (400 < (nth l j).2.2.2.size)) = false := hall
    by_cases hil : i < l.length
    · repeat' (first | with_reducible refine inw ?_ | simp (maxSteps := 900000) (disch := omega) only [go_sem, Nat.reduceEqDiff, ↓reduceIte, reduceCtorEq, Nat.reduceAdd, Nat.reduceMul, Int.reduceToNat, List.reduceReplicate, Nat.reduceLeDiff, Nat.reduceLT, Int.reduceLT, Int.reduceLE, Int.reduceEq] | with_reducible refine giv_intro fun _h => ?_ | with_reducible refine alt_intro ?_ fun _h => ?_ | with_reducible refine pickD_nil ?_ | (with_reducible refine brc (fun _h => ?_) fun _h => ?_) <;> first | (exfalso; omega) | simp only [decide_eq_false _h] | simp only [(_h : (_ : Bool) = _)] | simp only [decide_eq_true _h] | skip)
      · rw [longC, if_pos (any_yes (p := fun c : Change => decide (400 < c.2.2.2.size)) hil (decide_eq_true (by omega)))]
      · exact ⟨i + 1, ⟨by omega, by omega, allN_step hall (decide_eq_false (by omega))⟩, by omega⟩
    · have h2 : longC l = false := any_no fun j hj => hall j (by omega)
      rw [if_neg (by rw [h2]; simp)]
      repeat' (first | with_reducible refine inw ?_ | simp (maxSteps := 900000) (disch := omega) only [go_sem, Nat.reduceEqDiff, ↓reduceIte, reduceCtorEq, Nat.reduceAdd, Nat.reduceMul, Int.reduceToNat, List.reduceReplicate, Nat.reduceLeDiff, Nat.reduceLT, Int.reduceLT, Int.reduceLE, Int.reduceEq] | with_reducible refine giv_intro fun _h => ?_ | with_reducible refine alt_intro ?_ fun _h => ?_ | with_reducible refine pickD_nil ?_ | (with_reducible refine brc (fun _h => ?_) fun _h => ?_) <;> first | (exfalso; omega) | simp only [decide_eq_false _h] | simp only [(_h : (_ : Bool) = _)] | simp only [decide_eq_true _h] | skip)
      (refine loopC hS [0] (by simp only [go_sem, Nat.reduceEqDiff, ↓reduceIte, reduceCtorEq, Nat.reduceAdd, Nat.reduceMul, Int.reduceToNat, List.reduceReplicate, Nat.reduceLeDiff, Nat.reduceLT, Int.reduceLT, Int.reduceLE, Int.reduceEq]; try rfl) (fun (i : Nat) => [(4, intA i)]) (fun (i : Nat) => []) (fun (i : Nat) => i ≤ l.length ∧ ∀ j, j < i → chB (nth l j) = true) (fun (i : Nat) => l.length - i) (0) ?h06 ?hn6 ?rd6; case hn6 => (intro s; first | rfl | (rcases s with ⟨_, _⟩; rfl) | (rcases s with ⟨_, _, _⟩; rfl) | (rcases s with ⟨_, _, _, _⟩; rfl) | (rcases s with ⟨_, _, _, _, _⟩; rfl)))
      · simp (maxSteps := 900000) (disch := omega) only [go_sem, Nat.reduceEqDiff, ↓reduceIte, reduceCtorEq, Nat.reduceAdd, Nat.reduceMul, Int.reduceToNat, List.reduceReplicate, Nat.reduceLeDiff, Nat.reduceLT, Int.reduceLT, Int.reduceLE, Int.reduceEq]; simp
      rintro i ⟨hi, hall⟩
      replace hi : i ≤ l.length := hi
      replace hall : ∀ j, j < i → chB (nth l j) = true := hall
      by_cases hil : i < l.length
      · have d3 := isChange_ok (nth l i) (hs _ (nth_mem hil))
        repeat' (first | with_reducible refine inw ?_ | simp (maxSteps := 900000) (disch := omega) only [go_sem, Nat.reduceEqDiff, ↓reduceIte, reduceCtorEq, Nat.reduceAdd, Nat.reduceMul, Int.reduceToNat, List.reduceReplicate, Nat.reduceLeDiff, Nat.reduceLT, Int.reduceLT, Int.reduceLE, Int.reduceEq] | (with_reducible apply call (d3)); (focus simp (maxSteps := 900000) (disch := omega) only [go_sem, Nat.reduceEqDiff, ↓reduceIte, reduceCtorEq, Nat.reduceAdd, Nat.reduceMul, Int.reduceToNat, List.reduceReplicate, Nat.reduceLeDiff, Nat.reduceLT, Int.reduceLT, Int.reduceLE, Int.reduceEq] <;> rfl) | with_reducible refine giv_intro fun _h => ?_ | with_reducible refine alt_intro ?_ fun _h => ?_ | with_reducible refine pickD_nil ?_ | (with_reducible refine brc (fun _h => ?_) fun _h => ?_) <;> first | (exfalso; omega) | simp only [decide_eq_false _h] | simp only [(_h : (_ : Bool) = _)] | simp only [decide_eq_true _h] | skip)
        · rw [all_no hil _h]; rfl
        · exact ⟨i + 1, ⟨by omega, by omega, allN_step hall _h⟩, by omega⟩
      · rw [all_nth (fun j hj => hall j (by omega))]
        repeat' (first | with_reducible refine inw ?_ | simp (maxSteps := 900000) (disch := omega) only [go_sem, Nat.reduceEqDiff, ↓reduceIte, reduceCtorEq, Nat.reduceAdd, Nat.reduceMul, Int.reduceToNat, List.reduceReplicate, Nat.reduceLeDiff, Nat.reduceLT, Int.reduceLT, Int.reduceLE, Int.reduceEq] | with_reducible refine giv_intro fun _h => ?_ | with_reducible refine alt_intro ?_ fun _h => ?_ | with_reducible refine pickD_nil ?_ | (with_reducible refine brc (fun _h => ?_) fun _h => ?_) <;> first | (exfalso; omega) | simp only [decide_eq_false _h] | simp only [(_h : (_ : Bool) = _)] | simp only [decide_eq_true _h] | skip)
end Go.Proofs.Ytapgimibdamjoaa.Ev

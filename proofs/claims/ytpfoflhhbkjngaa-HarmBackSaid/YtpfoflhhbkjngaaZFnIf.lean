/- Archsounds: which there are, and what a symbol is written as. -/
import Derived.Test.YtpfoflhhbkjngaaZFnIe
import Derived.Test.YtpfoflhhbkjngaaZEvZn
set_option linter.unusedVariables false
set_option linter.unusedSimpArgs false
namespace Go.Proofs.Ytpfoflhhbkjngaa.Ev
open Go Go.Proofs

theorem rop_still {cs : List AV} (h : ∀ c ∈ cs, AV.Still c) : AV.Still (.rop cs) := ⟨fun k => by simp only [AV.bel]; exact bels_iff.2 fun c hc => (h c hc).bel k, fun D S d => n_rop D S d _, rfl⟩
/-- slices.IndexFunc[[]ablaut/api.Arch,ablaut/api.Arch]: 2 parameters, 0 captured -/
def s131 : SC := .seq (.reg [o1 4 (.mv (cI 0))])
  (.seq (.seq (.reg [o1 6 (.mv (.t 0)),
     o1 7 (.lenL (.t 6)),
     o1 8 (.mv (cI 0))])
    (.block 0 (.loop (.seq (.reg [o1 9 (.bin .lss (.t 8) (.t 7))])
       (.seq (.cond (.t 9) (.skip) (.exit 0))
        (.seq (.block 1 (.seq (.reg [o1 10 (.mv (.t 8)),
            o1 5 (.mv (.t 10))])
           (.seq (.reg [o1 11 (.mv (.t 1)),
             o1 12 (.mv (.t 0)),
             o1 13 (.mv (.t 5)),
             o1 14 (.iaddr 2 (.t 12) (.t 13)),
             o1 15 (.load (some 2) (.t 14)),
             o1 16 (.call (.t 11) [(.t 15)])])
            (.cond (.t 16) (.seq (.reg [o1 17 (.mv (.t 5)),
               o1 4 (.mv (.t 17))])
              (.ret)) (.skip)))))
         (.reg [o1 18 (.bin .add (.t 8) (cI 1)),
          o1 8 (.mv (.t 18))])))))))
   (.seq (.reg [o1 4 (.mv (cI (-1)))])
    (.ret)))
theorem s131_ok : lookF Try.prog 131 = some (s131, 19, [.tmp 4]) := by kernel_rfl
theorem arcIdx_ok (l : List Arch) (p : Arch → Bool) (g : FuncId) (caps : List AV) (hc : ∀ c ∈ caps, AV.Still c) (hp : ∀ x, x ∈ l → Fn P g (valA x :: caps) (boolA (p x))) :
    Fn P 131 [sl l, .clo g caps] (intA (match l.findIdx? p with | some i => (i : Int) | none => -1)) := by
  have h1 := caps_seen hc
  have h2 := caps_bel hc
  (refine fn_look s131_ok (by simp) (by intro k; simp only [go_sem, Nat.reduceEqDiff, ↓reduceIte, reduceCtorEq, Nat.reduceAdd, Nat.reduceMul, Int.reduceToNat, List.reduceReplicate, Nat.reduceLeDiff, Nat.reduceLT, Int.reduceLT, Int.reduceLE, Int.reduceEq]) fun S hS => cwp_sound _ _ _ _ ?_; simp (maxSteps := 900000) (disch := omega) only [s131, go_sem, Nat.reduceEqDiff, ↓reduceIte, reduceCtorEq, Nat.reduceAdd, Nat.reduceMul, Int.reduceToNat, List.reduceReplicate, Nat.reduceLeDiff, Nat.reduceLT, Int.reduceLT, Int.reduceLE, Int.reduceEq])
  repeat' (first | with_reducible refine inw ?_ | simp (maxSteps := 900000) (disch := omega) only [go_sem, Nat.reduceEqDiff, ↓reduceIte, reduceCtorEq, Nat.reduceAdd, Nat.reduceMul, Int.reduceToNat, List.reduceReplicate, Nat.reduceLeDiff, Nat.reduceLT, Int.reduceLT, Int.reduceLE, Int.reduceEq, h1, h2] | with_reducible refine pickB_f ?_ | with_reducible refine giv_intro fun _h => ?_ | with_reducible refine alt_intro ?_ fun _h => ?_ | with_reducible refine pickD_nil ?_ | (with_reducible refine brc (fun _h => ?_) fun _h => ?_) <;> first | (exfalso; omega) | simp only [decide_eq_false _h] | simp only [(_h : (_ : Bool) = _)] | simp only [decide_eq_true _h] | skip)
  (refine loopC hS [0, 1, 7] (by simp only [go_sem, Nat.reduceEqDiff, ↓reduceIte, reduceCtorEq, Nat.reduceAdd, Nat.reduceMul, Int.reduceToNat, List.reduceReplicate, Nat.reduceLeDiff, Nat.reduceLT, Int.reduceLT, Int.reduceLE, Int.reduceEq]; try rfl) (fun (i : Nat) => [(8, intA i)]) (fun (i : Nat) => []) (fun (i : Nat) => i ≤ l.length ∧ l.findIdx? p = ((l.drop i).findIdx? p).map (· + i)) (fun (i : Nat) => l.length - i) (0) ?_ (by intro s; first | (simp only [List.length_cons, List.length_nil]; done) | rfl | (rcases s with ⟨_, _⟩; rfl) | (rcases s with ⟨_, _, _⟩; rfl) | (rcases s with ⟨_, _, _, _⟩; rfl) | (rcases s with ⟨_, _, _, _, _⟩; rfl)) ?_)
  · simp (maxSteps := 900000) (disch := omega) only [go_sem, Nat.reduceEqDiff, ↓reduceIte, reduceCtorEq, Nat.reduceAdd, Nat.reduceMul, Int.reduceToNat, List.reduceReplicate, Nat.reduceLeDiff, Nat.reduceLT, Int.reduceLT, Int.reduceLE, Int.reduceEq]; simp
  rintro i ⟨hi, hI⟩
  replace hi : i ≤ l.length := hi
  replace hI : l.findIdx? p = ((l.drop i).findIdx? p).map (· + i) := hI
  repeat' (first | with_reducible refine inw ?_ | simp (maxSteps := 900000) (disch := omega) only [go_sem, Nat.reduceEqDiff, ↓reduceIte, reduceCtorEq, Nat.reduceAdd, Nat.reduceMul, Int.reduceToNat, List.reduceReplicate, Nat.reduceLeDiff, Nat.reduceLT, Int.reduceLT, Int.reduceLE, Int.reduceEq, h1, h2] | (with_reducible apply call (hp _ (nth_mem (by assumption)))); (focus simp (maxSteps := 900000) (disch := omega) only [go_sem, Nat.reduceEqDiff, ↓reduceIte, reduceCtorEq, Nat.reduceAdd, Nat.reduceMul, Int.reduceToNat, List.reduceReplicate, Nat.reduceLeDiff, Nat.reduceLT, Int.reduceLT, Int.reduceLE, Int.reduceEq, h1, h2] <;> rfl) | with_reducible refine pickB_f ?_ | with_reducible refine giv_intro fun _h => ?_ | with_reducible refine alt_intro ?_ fun _h => ?_ | with_reducible refine pickD_nil ?_ | (with_reducible refine brc (fun _h => ?_) fun _h => ?_) <;> first | (exfalso; omega) | simp only [decide_eq_false _h] | simp only [(_h : (_ : Bool) = _)] | simp only [decide_eq_true _h] | skip)
  · rw [hI, nth_drop (by assumption)]
    simp_all [List.findIdx?_cons]
  · refine ⟨i + 1, ⟨by omega, by omega, ?_⟩, by omega⟩
    rw [hI, nth_drop (by assumption), List.findIdx?_cons]
    simp_all [Function.comp_def, Nat.add_comm, Nat.add_left_comm]
  · rw [hI, List.drop_eq_nil_of_le (by omega)]; rfl
/-- slices.ContainsFunc[[]ablaut/api.Arch,ablaut/api.Arch]: 2 parameters, 0 captured -/
def s126 : SC := .seq (.reg [o1 4 (.mv (cB false))])
  (.seq (.reg [o1 5 (.mv (.t 0)),
    o1 6 (.mv (.t 1)),
    o1 7 (.call (.f 131) [(.t 5), (.t 6)]),
    o1 8 (.bin .geq (.t 7) (cI 0)),
    o1 4 (.mv (.t 8))])
   (.ret))
theorem s126_ok : lookF Try.prog 126 = some (s126, 9, [.tmp 4]) := by kernel_rfl
theorem arcAny_ok (l : List Arch) (p : Arch → Bool) (g : FuncId) (caps : List AV) (hc : ∀ c ∈ caps, AV.Still c) (hp : ∀ x, x ∈ l → Fn P g (valA x :: caps) (boolA (p x))) :
    Fn P 126 [sl l, .clo g caps] (boolA (l.any p)) := by
  have h1 := caps_seen hc
  have h2 := caps_bel hc
  (refine fn_look s126_ok (by simp) (by intro k; simp only [go_sem, Nat.reduceEqDiff, ↓reduceIte, reduceCtorEq, Nat.reduceAdd, Nat.reduceMul, Int.reduceToNat, List.reduceReplicate, Nat.reduceLeDiff, Nat.reduceLT, Int.reduceLT, Int.reduceLE, Int.reduceEq]) fun S hS => cwp_sound _ _ _ _ ?_; simp (maxSteps := 900000) (disch := omega) only [s126, go_sem, Nat.reduceEqDiff, ↓reduceIte, reduceCtorEq, Nat.reduceAdd, Nat.reduceMul, Int.reduceToNat, List.reduceReplicate, Nat.reduceLeDiff, Nat.reduceLT, Int.reduceLT, Int.reduceLE, Int.reduceEq])
  repeat' (first | with_reducible refine inw ?_ | simp (maxSteps := 900000) (disch := omega) only [go_sem, Nat.reduceEqDiff, ↓reduceIte, reduceCtorEq, Nat.reduceAdd, Nat.reduceMul, Int.reduceToNat, List.reduceReplicate, Nat.reduceLeDiff, Nat.reduceLT, Int.reduceLT, Int.reduceLE, Int.reduceEq, h1, h2] | (with_reducible apply call (arcIdx_ok l p g caps hc hp)); (focus simp (maxSteps := 900000) (disch := omega) only [go_sem, Nat.reduceEqDiff, ↓reduceIte, reduceCtorEq, Nat.reduceAdd, Nat.reduceMul, Int.reduceToNat, List.reduceReplicate, Nat.reduceLeDiff, Nat.reduceLT, Int.reduceLT, Int.reduceLE, Int.reduceEq, h1, h2] <;> rfl) | with_reducible refine pickB_f ?_ | with_reducible refine giv_intro fun _h => ?_ | with_reducible refine alt_intro ?_ fun _h => ?_ | with_reducible refine pickD_nil ?_ | (with_reducible refine brc (fun _h => ?_) fun _h => ?_) <;> first | (exfalso; omega) | simp only [decide_eq_false _h] | simp only [(_h : (_ : Bool) = _)] | simp only [decide_eq_true _h] | skip)
  exact findIdx_anyG
/-- slices.IndexFunc[[][]string,[]string]: 2 parameters, 0 captured -/
def s155 : SC := .seq (.reg [o1 4 (.mv (cI 0))])
  (.seq (.seq (.reg [o1 6 (.mv (.t 0)),
     o1 7 (.lenL (.t 6)),
     o1 8 (.mv (cI 0))])
    (.block 0 (.loop (.seq (.reg [o1 9 (.bin .lss (.t 8) (.t 7))])
       (.seq (.cond (.t 9) (.skip) (.exit 0))
        (.seq (.block 1 (.seq (.reg [o1 10 (.mv (.t 8)),
            o1 5 (.mv (.t 10))])
           (.seq (.reg [o1 11 (.mv (.t 1)),
             o1 12 (.mv (.t 0)),
             o1 13 (.mv (.t 5)),
             o1 14 (.iaddr 1 (.t 12) (.t 13)),
             o1 15 (.load none (.t 14)),
             o1 16 (.call (.t 11) [(.t 15)])])
            (.cond (.t 16) (.seq (.reg [o1 17 (.mv (.t 5)),
               o1 4 (.mv (.t 17))])
              (.ret)) (.skip)))))
         (.reg [o1 18 (.bin .add (.t 8) (cI 1)),
          o1 8 (.mv (.t 18))])))))))
   (.seq (.reg [o1 4 (.mv (cI (-1)))])
    (.ret)))
theorem s155_ok : lookF Try.prog 155 = some (s155, 19, [.tmp 4]) := by kernel_rfl
theorem wrdIdx_ok (l : List (List Str)) (p : (List Str) → Bool) (g : FuncId) (caps : List AV) (hc : ∀ c ∈ caps, AV.Still c) (hp : ∀ x, x ∈ l → Fn P g (valA x :: caps) (boolA (p x))) :
    Fn P 155 [sl l, .clo g caps] (intA (match l.findIdx? p with | some i => (i : Int) | none => -1)) := by
  have h1 := caps_seen hc
  have h2 := caps_bel hc
  (refine fn_look s155_ok (by simp) (by intro k; simp only [go_sem, Nat.reduceEqDiff, ↓reduceIte, reduceCtorEq, Nat.reduceAdd, Nat.reduceMul, Int.reduceToNat, List.reduceReplicate, Nat.reduceLeDiff, Nat.reduceLT, Int.reduceLT, Int.reduceLE, Int.reduceEq]) fun S hS => cwp_sound _ _ _ _ ?_; simp (maxSteps := 900000) (disch := omega) only [s155, go_sem, Nat.reduceEqDiff, ↓reduceIte, reduceCtorEq, Nat.reduceAdd, Nat.reduceMul, Int.reduceToNat, List.reduceReplicate, Nat.reduceLeDiff, Nat.reduceLT, Int.reduceLT, Int.reduceLE, Int.reduceEq])
  repeat' (first | with_reducible refine inw ?_ | simp (maxSteps := 900000) (disch := omega) only [go_sem, Nat.reduceEqDiff, ↓reduceIte, reduceCtorEq, Nat.reduceAdd, Nat.reduceMul, Int.reduceToNat, List.reduceReplicate, Nat.reduceLeDiff, Nat.reduceLT, Int.reduceLT, Int.reduceLE, Int.reduceEq, h1, h2] | with_reducible refine pickB_f ?_ | with_reducible refine giv_intro fun _h => ?_ | with_reducible refine alt_intro ?_ fun _h => ?_ | with_reducible refine pickD_nil ?_ | (with_reducible refine brc (fun _h => ?_) fun _h => ?_) <;> first | (exfalso; omega) | simp only [decide_eq_false _h] | simp only [(_h : (_ : Bool) = _)] | simp only [decide_eq_true _h] | skip)
  (refine loopC hS [0, 1, 7] (by simp only [go_sem, Nat.reduceEqDiff, ↓reduceIte, reduceCtorEq, Nat.reduceAdd, Nat.reduceMul, Int.reduceToNat, List.reduceReplicate, Nat.reduceLeDiff, Nat.reduceLT, Int.reduceLT, Int.reduceLE, Int.reduceEq]; try rfl) (fun (i : Nat) => [(8, intA i)]) (fun (i : Nat) => []) (fun (i : Nat) => i ≤ l.length ∧ l.findIdx? p = ((l.drop i).findIdx? p).map (· + i)) (fun (i : Nat) => l.length - i) (0) ?_ (by intro s; first | (simp only [List.length_cons, List.length_nil]; done) | rfl | (rcases s with ⟨_, _⟩; rfl) | (rcases s with ⟨_, _, _⟩; rfl) | (rcases s with ⟨_, _, _, _⟩; rfl) | (rcases s with ⟨_, _, _, _, _⟩; rfl)) ?_)
  · simp (maxSteps := 900000) (disch := omega) only [go_sem, Nat.reduceEqDiff, ↓reduceIte, reduceCtorEq, Nat.reduceAdd, Nat.reduceMul, Int.reduceToNat, List.reduceReplicate, Nat.reduceLeDiff, Nat.reduceLT, Int.reduceLT, Int.reduceLE, Int.reduceEq]; simp
  rintro i ⟨hi, hI⟩
  replace hi : i ≤ l.length := hi
  replace hI : l.findIdx? p = ((l.drop i).findIdx? p).map (· + i) := hI
  repeat' (first | with_reducible refine inw ?_ | simp (maxSteps := 900000) (disch := omega) only [go_sem, Nat.reduceEqDiff, ↓reduceIte, reduceCtorEq, Nat.reduceAdd, Nat.reduceMul, Int.reduceToNat, List.reduceReplicate, Nat.reduceLeDiff, Nat.reduceLT, Int.reduceLT, Int.reduceLE, Int.reduceEq, h1, h2] | (with_reducible apply call (hp _ (nth_mem (by assumption)))); (focus simp (maxSteps := 900000) (disch := omega) only [go_sem, Nat.reduceEqDiff, ↓reduceIte, reduceCtorEq, Nat.reduceAdd, Nat.reduceMul, Int.reduceToNat, List.reduceReplicate, Nat.reduceLeDiff, Nat.reduceLT, Int.reduceLT, Int.reduceLE, Int.reduceEq, h1, h2] <;> rfl) | with_reducible refine pickB_f ?_ | with_reducible refine giv_intro fun _h => ?_ | with_reducible refine alt_intro ?_ fun _h => ?_ | with_reducible refine pickD_nil ?_ | (with_reducible refine brc (fun _h => ?_) fun _h => ?_) <;> first | (exfalso; omega) | simp only [decide_eq_false _h] | simp only [(_h : (_ : Bool) = _)] | simp only [decide_eq_true _h] | skip)
  · rw [hI, nth_drop (by assumption)]
    simp_all [List.findIdx?_cons]
  · refine ⟨i + 1, ⟨by omega, by omega, ?_⟩, by omega⟩
    rw [hI, nth_drop (by assumption), List.findIdx?_cons]
    simp_all [Function.comp_def, Nat.add_comm, Nat.add_left_comm]
  · rw [hI, List.drop_eq_nil_of_le (by omega)]; rfl
/-- slices.ContainsFunc[[][]string,[]string]: 2 parameters, 0 captured -/
def s128 : SC := .seq (.reg [o1 4 (.mv (cB false))])
  (.seq (.reg [o1 5 (.mv (.t 0)),
    o1 6 (.mv (.t 1)),
    o1 7 (.call (.f 155) [(.t 5), (.t 6)]),
    o1 8 (.bin .geq (.t 7) (cI 0)),
    o1 4 (.mv (.t 8))])
   (.ret))
theorem s128_ok : lookF Try.prog 128 = some (s128, 9, [.tmp 4]) := by kernel_rfl
theorem wrdAny_ok (l : List (List Str)) (p : (List Str) → Bool) (g : FuncId) (caps : List AV) (hc : ∀ c ∈ caps, AV.Still c) (hp : ∀ x, x ∈ l → Fn P g (valA x :: caps) (boolA (p x))) :
    Fn P 128 [sl l, .clo g caps] (boolA (l.any p)) := by
  have h1 := caps_seen hc
  have h2 := caps_bel hc
  (refine fn_look s128_ok (by simp) (by intro k; simp only [go_sem, Nat.reduceEqDiff, ↓reduceIte, reduceCtorEq, Nat.reduceAdd, Nat.reduceMul, Int.reduceToNat, List.reduceReplicate, Nat.reduceLeDiff, Nat.reduceLT, Int.reduceLT, Int.reduceLE, Int.reduceEq]) fun S hS => cwp_sound _ _ _ _ ?_; simp (maxSteps := 900000) (disch := omega) only [s128, go_sem, Nat.reduceEqDiff, ↓reduceIte, reduceCtorEq, Nat.reduceAdd, Nat.reduceMul, Int.reduceToNat, List.reduceReplicate, Nat.reduceLeDiff, Nat.reduceLT, Int.reduceLT, Int.reduceLE, Int.reduceEq])
  repeat' (first | with_reducible refine inw ?_ | simp (maxSteps := 900000) (disch := omega) only [go_sem, Nat.reduceEqDiff, ↓reduceIte, reduceCtorEq, Nat.reduceAdd, Nat.reduceMul, Int.reduceToNat, List.reduceReplicate, Nat.reduceLeDiff, Nat.reduceLT, Int.reduceLT, Int.reduceLE, Int.reduceEq, h1, h2] | (with_reducible apply call (wrdIdx_ok l p g caps hc hp)); (focus simp (maxSteps := 900000) (disch := omega) only [go_sem, Nat.reduceEqDiff, ↓reduceIte, reduceCtorEq, Nat.reduceAdd, Nat.reduceMul, Int.reduceToNat, List.reduceReplicate, Nat.reduceLeDiff, Nat.reduceLT, Int.reduceLT, Int.reduceLE, Int.reduceEq, h1, h2] <;> rfl) | with_reducible refine pickB_f ?_ | with_reducible refine giv_intro fun _h => ?_ | with_reducible refine alt_intro ?_ fun _h => ?_ | with_reducible refine pickD_nil ?_ | (with_reducible refine brc (fun _h => ?_) fun _h => ?_) <;> first | (exfalso; omega) | simp only [decide_eq_false _h] | simp only [(_h : (_ : Bool) = _)] | simp only [decide_eq_true _h] | skip)
  exact findIdx_anyG
/-- ablaut/harm.arches$1: 1 parameters, 0 captured -/
def s127 : SC := .seq (.reg [o1 1 (.box 110 2 (.t 0)),
   o1 2 (.mv (cB false))])
  (.seq (.reg [o1 3 (.faddr 1 (.t 1)),
    o1 4 (.load none (.t 3)),
    o1 5 (.lenL (.t 4)),
    o1 6 (.bin .gtr (.t 5) (cI 6)),
    o1 2 (.mv (.t 6))])
   (.ret))
theorem s127_ok : lookF Try.prog 127 = some (s127, 7, [.tmp 2]) := by kernel_rfl
theorem arches1_ok (a : Arch) : Fn P 127 [valA a] (boolA (archL a)) := by
  (refine fn_look s127_ok (by simp) (by intro k; simp only [go_sem, Nat.reduceEqDiff, ↓reduceIte, reduceCtorEq, Nat.reduceAdd, Nat.reduceMul, Int.reduceToNat, List.reduceReplicate, Nat.reduceLeDiff, Nat.reduceLT, Int.reduceLT, Int.reduceLE, Int.reduceEq]) fun S hS => cwp_sound _ _ _ _ ?_; simp (maxSteps := 900000) (disch := omega) only [s127, go_sem, Nat.reduceEqDiff, ↓reduceIte, reduceCtorEq, Nat.reduceAdd, Nat.reduceMul, Int.reduceToNat, List.reduceReplicate, Nat.reduceLeDiff, Nat.reduceLT, Int.reduceLT, Int.reduceLE, Int.reduceEq])
  repeat' (first | with_reducible refine inw ?_ | simp (maxSteps := 900000) (disch := omega) only [go_sem, Nat.reduceEqDiff, ↓reduceIte, reduceCtorEq, Nat.reduceAdd, Nat.reduceMul, Int.reduceToNat, List.reduceReplicate, Nat.reduceLeDiff, Nat.reduceLT, Int.reduceLT, Int.reduceLE, Int.reduceEq] | with_reducible refine pickB_f ?_ | with_reducible refine giv_intro fun _h => ?_ | with_reducible refine alt_intro ?_ fun _h => ?_ | with_reducible refine pickD_nil ?_ | (with_reducible refine brc (fun _h => ?_) fun _h => ?_) <;> first | (exfalso; omega) | simp only [decide_eq_false _h] | simp only [(_h : (_ : Bool) = _)] | simp only [decide_eq_true _h] | skip)
  exact decide_eq_decide.2 (by omega)
/-- ablaut/harm.arches$2: 1 parameters, 0 captured -/
def s129 : SC := .seq (.reg [o1 2 (.mv (cB false))])
  (.seq (.reg [o1 3 (.mv (.t 0)),
    o1 4 (.lenL (.t 3)),
    o1 5 (.bin .gtr (.t 4) (cI 1)),
    o1 2 (.mv (.t 5))])
   (.ret))
theorem s129_ok : lookF Try.prog 129 = some (s129, 6, [.tmp 2]) := by kernel_rfl
theorem arches2_ok (w : List Str) : Fn P 129 [sl w] (boolA (decide (1 < w.length))) := by
  (refine fn_look s129_ok (by simp) (by intro k; simp only [go_sem, Nat.reduceEqDiff, ↓reduceIte, reduceCtorEq, Nat.reduceAdd, Nat.reduceMul, Int.reduceToNat, List.reduceReplicate, Nat.reduceLeDiff, Nat.reduceLT, Int.reduceLT, Int.reduceLE, Int.reduceEq]) fun S hS => cwp_sound _ _ _ _ ?_; simp (maxSteps := 900000) (disch := omega) only [s129, go_sem, Nat.reduceEqDiff, ↓reduceIte, reduceCtorEq, Nat.reduceAdd, Nat.reduceMul, Int.reduceToNat, List.reduceReplicate, Nat.reduceLeDiff, Nat.reduceLT, Int.reduceLT, Int.reduceLE, Int.reduceEq])
  repeat' (first | with_reducible refine inw ?_ | simp (maxSteps := 900000) (disch := omega) only [go_sem, Nat.reduceEqDiff, ↓reduceIte, reduceCtorEq, Nat.reduceAdd, Nat.reduceMul, Int.reduceToNat, List.reduceReplicate, Nat.reduceLeDiff, Nat.reduceLT, Int.reduceLT, Int.reduceLE, Int.reduceEq] | with_reducible refine pickB_f ?_ | with_reducible refine giv_intro fun _h => ?_ | with_reducible refine alt_intro ?_ fun _h => ?_ | with_reducible refine pickD_nil ?_ | (with_reducible refine brc (fun _h => ?_) fun _h => ?_) <;> first | (exfalso; omega) | simp only [decide_eq_false _h] | simp only [(_h : (_ : Bool) = _)] | simp only [decide_eq_true _h] | skip)
  exact decide_eq_decide.2 (by omega)
/-- ablaut/harm.arches$3: 1 parameters, 1 captured -/
def s130 : SC := .seq (.reg [o1 2 (.box 110 2 (.t 0)),
   o1 3 (.mv (cB false))])
  (.seq (.reg [o1 4 (.faddr 0 (.t 2)),
    o1 5 (.load none (.t 4)),
    o1 6 (.faddr 0 (.t 1)),
    o1 7 (.load none (.t 6)),
    o1 8 (.bin .eql (.t 5) (.t 7)),
    o1 3 (.mv (.t 8))])
   (.ret))
theorem s130_ok : lookF Try.prog 130 = some (s130, 9, [.tmp 3]) := by kernel_rfl
theorem arches3_ok (b a : Arch) : Fn P 130 [valA b, .rop (Enc.cells a)] (boolA (decide (b.1 = a.1))) := by
  (refine fn_look s130_ok (by simp) (by intro k; simp only [go_sem, Nat.reduceEqDiff, ↓reduceIte, reduceCtorEq, Nat.reduceAdd, Nat.reduceMul, Int.reduceToNat, List.reduceReplicate, Nat.reduceLeDiff, Nat.reduceLT, Int.reduceLT, Int.reduceLE, Int.reduceEq]) fun S hS => cwp_sound _ _ _ _ ?_; simp (maxSteps := 900000) (disch := omega) only [s130, go_sem, Nat.reduceEqDiff, ↓reduceIte, reduceCtorEq, Nat.reduceAdd, Nat.reduceMul, Int.reduceToNat, List.reduceReplicate, Nat.reduceLeDiff, Nat.reduceLT, Int.reduceLT, Int.reduceLE, Int.reduceEq])
  repeat' (first | with_reducible refine inw ?_ | simp (maxSteps := 900000) (disch := omega) only [go_sem, Nat.reduceEqDiff, ↓reduceIte, reduceCtorEq, Nat.reduceAdd, Nat.reduceMul, Int.reduceToNat, List.reduceReplicate, Nat.reduceLeDiff, Nat.reduceLT, Int.reduceLT, Int.reduceLE, Int.reduceEq] | with_reducible refine pickB_f ?_ | with_reducible refine giv_intro fun _h => ?_ | with_reducible refine alt_intro ?_ fun _h => ?_ | with_reducible refine pickD_nil ?_ | (with_reducible refine brc (fun _h => ?_) fun _h => ?_) <;> first | (exfalso; omega) | simp only [decide_eq_false _h] | simp only [(_h : (_ : Bool) = _)] | simp only [decide_eq_true _h] | skip)
theorem archW_step {l : List Arch} {i : Nat} (h : i < l.length) : archW (l.drop i) = if wordsErr (nth l i).2 ≠ 0 then wordsErr (nth l i).2 else archW (l.drop (i + 1)) := by rw [nth_drop h, archW]
theorem archErr_3 {l : List Arch} (h : 24 < l.length ∨ l.any archL = true) : archErr l = 3 := by rw [archErr, if_pos h]
theorem archErr_w {l : List Arch} (h : ¬(24 < l.length ∨ l.any archL = true)) (h2 : archW l ≠ 0) : archErr l = archW l := by rw [archErr, if_neg h, if_pos h2]
theorem archErr_1 {l : List Arch} (h : ¬(24 < l.length ∨ l.any archL = true)) (h2 : archW l = 0) {i : Nat} (hi : i < l.length) (hb : badA l i = true) : archErr l = 1 := by
  rw [archErr, if_neg h, if_neg (by omega), if_pos]; exact List.any_eq_true.2 ⟨i, List.mem_range.2 hi, hb⟩
theorem archErr_0 {l : List Arch} (h : ¬(24 < l.length ∨ l.any archL = true)) (h2 : archW l = 0) (hb : ∀ j, j < l.length → badA l j = false) : archErr l = 0 := by
  rw [archErr, if_neg h, if_neg (by omega), if_neg]
  intro h3
  obtain ⟨j, h4, h5⟩ := List.any_eq_true.1 h3
  rw [hb j (List.mem_range.1 h4)] at h5; cases h5
theorem archW_words : ∀ {l : List Arch}, archW l = 0 → ∀ a ∈ l, wordsErr a.2 = 0
  | [], _, a, ha => by cases ha
  | b :: l, h, a, ha => by
    simp only [archW] at h
    split at h
    · rename_i h1; exact absurd h h1
    · rename_i h1
      rcases List.mem_cons.1 ha with rfl | ha
      · omega
      · exact archW_words h a ha
def wrS : List Arch → Str → Nat → Str
  | [], x, _ => x
  | a :: l, x, c => if a.1 = x ∧ c < a.2.length ∧ (nth a.2 c).length = 1 then nth (nth a.2 c) 0 else wrS l x c
theorem wrS_no {x : Str} {c : Nat} : ∀ {l : List Arch}, (∀ a ∈ l, a.1 ≠ x) → wrS l x c = x
  | [], _ => rfl
  | a :: l, h => by
    rw [wrS, if_neg fun e => h a (by simp) e.1]
    exact wrS_no fun b hb => h b (by simp [hb])
theorem asAt_lt {a : Arch} {c : Nat} {x : Str} (hc : c < a.2.length) (h1 : (nth a.2 c).length = 1) : asAt a c x = nth (nth a.2 c) 0 := by
  unfold asAt
  rw [nth_get? hc]
  generalize nth a.2 c = w at *
  cases w with
  | nil => simp at h1
  | cons y w => rfl
theorem asAt_no {a : Arch} {c : Nat} {x : Str} (h : ¬(c < a.2.length ∧ (nth a.2 c).length = 1)) (hs : ∀ w ∈ a.2, w.length ≤ 1) : asAt a c x = x := by
  unfold asAt
  by_cases hc : c < a.2.length
  · have h1 := hs _ (nth_mem hc)
    have h2 : (nth a.2 c).length = 0 := by
      have : (nth a.2 c).length ≠ 1 := fun e => h ⟨hc, e⟩
      omega
    rw [nth_get? hc, List.eq_nil_of_length_eq_zero h2]
  · rw [List.getElem?_eq_none (by omega)]
theorem wrS_eq {x : Str} {c : Nat} : ∀ {l : List Arch}, l.Pairwise (fun a b => a.1 ≠ b.1) → (∀ a ∈ l, ∀ w ∈ a.2, w.length ≤ 1) → wrS l x c = wrT l x c
  | [], _, _ => rfl
  | a :: l, hd, hs => by
    obtain ⟨h1, h2⟩ := List.pairwise_cons.1 hd
    have ih := wrS_eq (x := x) (c := c) h2 fun b hb => hs b (by simp [hb])
    rw [wrS, wrT, List.find?_cons]
    by_cases e : a.1 = x
    · rw [decide_eq_true e]
      by_cases hc : c < a.2.length ∧ (nth a.2 c).length = 1
      · rw [if_pos ⟨e, hc⟩]; exact (asAt_lt hc.1 hc.2).symm
      · rw [if_neg fun q => hc q.2, wrS_no fun b hb => by rw [← e]; exact (h1 b hb).symm]
        exact (asAt_no hc (hs a (by simp))).symm
    · rw [if_neg fun q => e q.1, decide_eq_false e, ih, wrT]
/-- ablaut/ablautref13.written: 3 parameters, 0 captured -/
def s103 : SC := .seq (.reg [o1 6 (.mv (.c (.string ⟨#[]⟩)))])
  (.seq (.seq (.reg [o1 7 (.mv (cI 0))])
    (.block 0 (.loop (.seq (.seq (.reg [o1 8 (.mv (.t 7)),
         o1 9 (.mv (.t 0)),
         o1 10 (.lenL (.t 9)),
         o1 11 (.bin .lss (.t 8) (.t 10))])
        (.cond (.t 11) (.skip) (.exit 0)))
       (.seq (.block 1 (.seq (.reg [o1 14 (.mv (.t 0)),
           o1 15 (.mv (.t 7)),
           o1 16 (.iaddr 2 (.t 14) (.t 15)),
           o1 17 (.faddr 0 (.t 16)),
           o1 18 (.load none (.t 17)),
           o1 19 (.mv (.t 1)),
           o1 20 (.bin .eql (.t 18) (.t 19)),
           o1 21 (.mv (.t 20)),
           oT 22 (.mv (.t 2)) 21,
           oT 23 (.mv (.t 0)) 21,
           oT 24 (.mv (.t 7)) 21,
           oT 25 (.iaddr 2 (.t 23) (.t 24)) 21,
           oT 26 (.faddr 1 (.t 25)) 21,
           oT 27 (.load none (.t 26)) 21,
           oT 28 (.lenL (.t 27)) 21,
           oT 29 (.bin .lss (.t 22) (.t 28)) 21,
           o1 30 (.pick (.t 21) (.t 29) (cB false)),
           o1 31 (.mv (.t 30)),
           oT 32 (.mv (.t 0)) 31,
           oT 33 (.mv (.t 7)) 31,
           oT 34 (.iaddr 2 (.t 32) (.t 33)) 31,
           oT 35 (.faddr 1 (.t 34)) 31,
           oT 36 (.load none (.t 35)) 31,
           oT 37 (.mv (.t 2)) 31,
           oT 38 (.iaddr 1 (.t 36) (.t 37)) 31,
           oT 39 (.load none (.t 38)) 31,
           oT 40 (.lenL (.t 39)) 31,
           oT 41 (.bin .eql (.t 40) (cI 1)) 31,
           o1 42 (.pick (.t 31) (.t 41) (cB false))])
          (.cond (.t 42) (.seq (.reg [o1 43 (.mv (.t 0)),
             o1 44 (.mv (.t 7)),
             o1 45 (.iaddr 2 (.t 43) (.t 44)),
             o1 46 (.faddr 1 (.t 45)),
             o1 47 (.load none (.t 46)),
             o1 48 (.mv (.t 2)),
             o1 49 (.iaddr 1 (.t 47) (.t 48)),
             o1 50 (.load none (.t 49)),
             o1 51 (.iaddr 1 (.t 50) (cI 0)),
             o1 52 (.load none (.t 51)),
             o1 6 (.mv (.t 52))])
            (.ret)) (.skip))))
        (.reg [o1 12 (.mv (.t 7)),
         o1 13 (.bin .add (.t 12) (cI 1)),
         o1 7 (.mv (.t 13))]))))))
   (.seq (.reg [o1 53 (.mv (.t 1)),
     o1 6 (.mv (.t 53))])
    (.ret)))
theorem s103_ok : lookF Try.prog 103 = some (s103, 54, [.tmp 6]) := by kernel_rfl
theorem rWrittenS_ok (l : List Arch) (x : Str) (c : Nat) (hc : c ≤ 1000) : Fn P 103 [sl l, strA x, intA c] (strA (wrS l x c)) := by
  (refine fn_look s103_ok (by simp) (by intro k; simp only [go_sem, Nat.reduceEqDiff, ↓reduceIte, reduceCtorEq, Nat.reduceAdd, Nat.reduceMul, Int.reduceToNat, List.reduceReplicate, Nat.reduceLeDiff, Nat.reduceLT, Int.reduceLT, Int.reduceLE, Int.reduceEq]) fun S hS => cwp_sound _ _ _ _ ?_; simp (maxSteps := 900000) (disch := omega) only [s103, go_sem, Nat.reduceEqDiff, ↓reduceIte, reduceCtorEq, Nat.reduceAdd, Nat.reduceMul, Int.reduceToNat, List.reduceReplicate, Nat.reduceLeDiff, Nat.reduceLT, Int.reduceLT, Int.reduceLE, Int.reduceEq])
  repeat' (first | with_reducible refine inw ?_ | simp (maxSteps := 900000) (disch := omega) only [go_sem, Nat.reduceEqDiff, ↓reduceIte, reduceCtorEq, Nat.reduceAdd, Nat.reduceMul, Int.reduceToNat, List.reduceReplicate, Nat.reduceLeDiff, Nat.reduceLT, Int.reduceLT, Int.reduceLE, Int.reduceEq] | with_reducible refine pickB_f ?_ | with_reducible refine giv_intro fun _h => ?_ | with_reducible refine alt_intro ?_ fun _h => ?_ | with_reducible refine pickD_nil ?_ | (with_reducible refine brc (fun _h => ?_) fun _h => ?_) <;> first | (exfalso; omega) | simp only [decide_eq_false _h] | simp only [(_h : (_ : Bool) = _)] | simp only [decide_eq_true _h] | skip)
  (refine loopC hS [0, 1, 2] (by simp only [go_sem, Nat.reduceEqDiff, ↓reduceIte, reduceCtorEq, Nat.reduceAdd, Nat.reduceMul, Int.reduceToNat, List.reduceReplicate, Nat.reduceLeDiff, Nat.reduceLT, Int.reduceLT, Int.reduceLE, Int.reduceEq]; try rfl) (fun (i : Nat) => [(7, intA i)]) (fun (i : Nat) => []) (fun (i : Nat) => i ≤ l.length ∧ wrS l x c = wrS (l.drop i) x c) (fun (i : Nat) => l.length - i) (0) ?_ (by intro s; first | (simp only [List.length_cons, List.length_nil]; done) | rfl | (rcases s with ⟨_, _⟩; rfl) | (rcases s with ⟨_, _, _⟩; rfl) | (rcases s with ⟨_, _, _, _⟩; rfl) | (rcases s with ⟨_, _, _, _, _⟩; rfl)) ?_)
  · simp (maxSteps := 900000) (disch := omega) only [go_sem, Nat.reduceEqDiff, ↓reduceIte, reduceCtorEq, Nat.reduceAdd, Nat.reduceMul, Int.reduceToNat, List.reduceReplicate, Nat.reduceLeDiff, Nat.reduceLT, Int.reduceLT, Int.reduceLE, Int.reduceEq]
    exact Nat.zero_le _
  rintro i ⟨hi, hI⟩
  replace hi : i ≤ l.length := hi
  replace hI : wrS l x c = wrS (l.drop i) x c := hI
  by_cases hil : i < l.length
  · rw [nth_drop hil, wrS] at hI
    have hz : (nth (nth l i).2 c).length = 1 → (cellsL (nth (nth l i).2 c)).head? = some (strA (nth (nth (nth l i).2 c) 0)) := fun h => by
      generalize nth (nth l i).2 c = w at *
      cases w with
      | nil => simp at h
      | cons y w => rfl
    by_cases hcond : (nth l i).1 = x ∧ c < (nth l i).2.length ∧ (nth (nth l i).2 c).length = 1
    · have hz := hz hcond.2.2
      obtain ⟨q1, q2, q3⟩ := hcond
      rw [if_pos ⟨q1, q2, q3⟩] at hI
      rw [hI]
      repeat' (first | with_reducible refine inw ?_ | simp (maxSteps := 900000) (disch := omega) only [go_sem, Nat.reduceEqDiff, ↓reduceIte, reduceCtorEq, Nat.reduceAdd, Nat.reduceMul, Int.reduceToNat, List.reduceReplicate, Nat.reduceLeDiff, Nat.reduceLT, Int.reduceLT, Int.reduceLE, Int.reduceEq, hz] | with_reducible refine pickB_f ?_ | with_reducible refine giv_intro fun _h => ?_ | with_reducible refine alt_intro ?_ fun _h => ?_ | with_reducible refine pickD_nil ?_ | (with_reducible refine brc (fun _h => ?_) fun _h => ?_) <;> first | (exfalso; omega) | simp only [decide_eq_false _h] | simp only [(_h : (_ : Bool) = _)] | simp only [decide_eq_true _h] | skip)
      all_goals exact absurd q1 (by assumption)
    · rw [if_neg hcond] at hI
      repeat' (first | with_reducible refine inw ?_ | simp (maxSteps := 900000) (disch := omega) only [go_sem, Nat.reduceEqDiff, ↓reduceIte, reduceCtorEq, Nat.reduceAdd, Nat.reduceMul, Int.reduceToNat, List.reduceReplicate, Nat.reduceLeDiff, Nat.reduceLT, Int.reduceLT, Int.reduceLE, Int.reduceEq] | with_reducible refine pickB_f ?_ | with_reducible refine giv_intro fun _h => ?_ | with_reducible refine alt_intro ?_ fun _h => ?_ | with_reducible refine pickD_nil ?_ | (with_reducible refine brc (fun _h => ?_) fun _h => ?_) <;> first | (exfalso; omega) | simp only [decide_eq_false _h] | simp only [(_h : (_ : Bool) = _)] | simp only [decide_eq_true _h] | skip)
      all_goals first
        | exact ⟨i + 1, ⟨by omega, by omega, hI⟩, by omega⟩
        | exact absurd ⟨by assumption, by omega, by omega⟩ hcond
  · rw [drop_end (by omega)] at hI
    rw [hI]
    repeat' (first | with_reducible refine inw ?_ | simp (maxSteps := 900000) (disch := omega) only [go_sem, Nat.reduceEqDiff, ↓reduceIte, reduceCtorEq, Nat.reduceAdd, Nat.reduceMul, Int.reduceToNat, List.reduceReplicate, Nat.reduceLeDiff, Nat.reduceLT, Int.reduceLT, Int.reduceLE, Int.reduceEq] | with_reducible refine pickB_f ?_ | with_reducible refine giv_intro fun _h => ?_ | with_reducible refine alt_intro ?_ fun _h => ?_ | with_reducible refine pickD_nil ?_ | (with_reducible refine brc (fun _h => ?_) fun _h => ?_) <;> first | (exfalso; omega) | simp only [decide_eq_false _h] | simp only [(_h : (_ : Bool) = _)] | simp only [decide_eq_true _h] | skip)
    rfl
theorem rWritten_ok (l : List Arch) (x : Str) (c : Nat) (hc : c ≤ 1000) (hd : l.Pairwise fun a b => a.1 ≠ b.1) (hs : ∀ a ∈ l, ∀ w ∈ a.2, w.length ≤ 1) : Fn P 103 [sl l, strA x, intA c] (strA (wrT l x c)) := by
  rw [← wrS_eq hd hs]; exact rWrittenS_ok l x c hc
/-- ablaut/ablautref13.after: 3 parameters, 0 captured -/
def s104 : SC := .seq (.reg [o1 3 (.box 37 1 (.t 0)),
   o1 6 (.mv (cI 0))])
  (.seq (.seq (.reg [o1 8 (.load (some 1) (.t 3)),
     o1 9 (.mv (.t 1)),
     o1 10 (.call (.f 117) [(.t 8), (.t 9)]),
     o1 7 (.alloc 74 4 [(.string ⟨#[]⟩), (.int .i64 0), (.bool false), (.int .i64 0)]),
     o0 (.store 4 (.t 7) (.t 10))])
    (.seq (.reg [o1 11 (.faddr 2 (.t 7)),
      o1 12 (.load none (.t 11)),
      o1 13 (.mv (.t 12)),
      oT 14 (.faddr 3 (.t 7)) 13,
      oT 15 (.load none (.t 14)) 13,
      oT 16 (.bin .gtr (.t 15) (cI 0)) 13,
      o1 17 (.pick (.t 13) (.t 16) (cB false))])
     (.cond (.t 17) (.seq (.reg [o1 18 (.faddr 3 (.t 7)),
        o1 19 (.load none (.t 18)),
        o1 6 (.mv (.t 19))])
       (.ret)) (.skip))))
   (.seq (.reg [o1 20 (.mv (.t 2)),
     o1 6 (.mv (.t 20))])
    (.ret)))
theorem s104_ok : lookF Try.prog 104 = some (s104, 21, [.tmp 6]) := by kernel_rfl
theorem rAfter_ok (s : List Sound) (x : Str) (c : Nat) : Fn P 104 [sndA s, strA x, intA c] (intA (aftT s x c)) := by
  have c1 := rRow_ok s x
  (refine fn_look s104_ok (by simp) (by intro k; simp only [go_sem, Nat.reduceEqDiff, ↓reduceIte, reduceCtorEq, Nat.reduceAdd, Nat.reduceMul, Int.reduceToNat, List.reduceReplicate, Nat.reduceLeDiff, Nat.reduceLT, Int.reduceLT, Int.reduceLE, Int.reduceEq]) fun S hS => cwp_sound _ _ _ _ ?_; simp (maxSteps := 900000) (disch := omega) only [s104, go_sem, Nat.reduceEqDiff, ↓reduceIte, reduceCtorEq, Nat.reduceAdd, Nat.reduceMul, Int.reduceToNat, List.reduceReplicate, Nat.reduceLeDiff, Nat.reduceLT, Int.reduceLT, Int.reduceLE, Int.reduceEq])
  repeat' (first | with_reducible refine inw ?_ | simp (maxSteps := 900000) (disch := omega) only [go_sem, Nat.reduceEqDiff, ↓reduceIte, reduceCtorEq, Nat.reduceAdd, Nat.reduceMul, Int.reduceToNat, List.reduceReplicate, Nat.reduceLeDiff, Nat.reduceLT, Int.reduceLT, Int.reduceLE, Int.reduceEq] | (with_reducible apply call (c1)); (focus simp (maxSteps := 900000) (disch := omega) only [go_sem, Nat.reduceEqDiff, ↓reduceIte, reduceCtorEq, Nat.reduceAdd, Nat.reduceMul, Int.reduceToNat, List.reduceReplicate, Nat.reduceLeDiff, Nat.reduceLT, Int.reduceLT, Int.reduceLE, Int.reduceEq] <;> rfl) | with_reducible refine pickB_f ?_ | with_reducible refine giv_intro fun _h => ?_ | with_reducible refine alt_intro ?_ fun _h => ?_ | with_reducible refine pickD_nil ?_ | (with_reducible refine brc (fun _h => ?_) fun _h => ?_) <;> first | (exfalso; omega) | simp only [decide_eq_false _h] | simp only [(_h : (_ : Bool) = _)] | simp only [decide_eq_true _h] | skip)
  all_goals
    unfold aftT
    by_cases h : vowR s x = true ∧ 0 < clsR s x
    · rw [if_pos h]
      simp only [vowR, clsR] at h ⊢
      first
        | omega
        | (exfalso; obtain ⟨h1, h2⟩ := h; rw [h1] at _h; cases _h)
        | (exfalso; omega)
    · first
        | (rw [if_neg h]; done)
        | (exfalso; simp only [vowR, clsR] at h; exact h ⟨by assumption, by assumption⟩)
/-- ablaut/ablautref13.harmony: 3 parameters, 0 captured -/
def s99 : SC := .seq (.reg [o1 3 (.box 37 1 (.t 0)),
   o1 6 (.mv (.c (.slice none 0 0)))])
  (.seq (.reg [o1 7 (.mv (.c (.slice none 0 0)))])
   (.seq (.reg [o1 8 (.mv (cI 0))])
    (.seq (.seq (.reg [o1 9 (.mv (cI 0))])
      (.block 0 (.loop (.seq (.seq (.reg [o1 11 (.mv (.t 9)),
           o1 12 (.mv (.t 2)),
           o1 13 (.lenL (.t 12)),
           o1 14 (.bin .lss (.t 11) (.t 13))])
          (.cond (.t 14) (.skip) (.exit 0)))
         (.seq (.block 1 (.seq (.reg [o1 17 (.mv (.t 1)),
             o1 18 (.mv (.t 2)),
             o1 19 (.mv (.t 9)),
             o1 20 (.iaddr 1 (.t 18) (.t 19)),
             o1 21 (.load none (.t 20)),
             o1 22 (.mv (.t 8)),
             o1 23 (.call (.f 103) [(.t 17), (.t 21), (.t 22)]),
             o1 10 (.mv (.t 23))])
            (.seq (.reg [o1 24 (.mv (.t 7)),
              o1 25 (.mv (.t 10)),
              o1 26 (.buildSl 9 1 1 [(.string ⟨#[]⟩)] [(0, 1, (.t 25))]),
              o1 27 (.app 9 1 16 (.t 24) (.t 26)),
              o1 7 (.mv (.t 27))])
             (.reg [o1 28 (.load (some 1) (.t 3)),
              o1 29 (.mv (.t 10)),
              o1 30 (.mv (.t 8)),
              o1 31 (.call (.f 104) [(.t 28), (.t 29), (.t 30)]),
              o1 8 (.mv (.t 31))]))))
          (.reg [o1 15 (.mv (.t 9)),
           o1 16 (.bin .add (.t 15) (cI 1)),
           o1 9 (.mv (.t 16))]))))))
     (.seq (.reg [o1 32 (.mv (.t 7)),
       o1 6 (.mv (.t 32))])
      (.ret)))))
theorem s99_ok : lookF Try.prog 99 = some (s99, 33, [.tmp 6]) := by kernel_rfl
theorem rHarmony_ok (s : List Sound) (l : List Arch) (w : List Str) (hw : w.length ≤ 1000) (hd : l.Pairwise fun a b => a.1 ≠ b.1) (hs : ∀ a ∈ l, ∀ w ∈ a.2, w.length ≤ 1) (hcl : ∀ x, clsR s x ≤ 5) : Fn P 99 [sndA s, sl l, sl w] (sl (harmT s l w 0)) := by
  (refine fn_look s99_ok (by simp) (by intro k; simp only [go_sem, Nat.reduceEqDiff, ↓reduceIte, reduceCtorEq, Nat.reduceAdd, Nat.reduceMul, Int.reduceToNat, List.reduceReplicate, Nat.reduceLeDiff, Nat.reduceLT, Int.reduceLT, Int.reduceLE, Int.reduceEq]) fun S hS => cwp_sound _ _ _ _ ?_; simp (maxSteps := 900000) (disch := omega) only [s99, go_sem, Nat.reduceEqDiff, ↓reduceIte, reduceCtorEq, Nat.reduceAdd, Nat.reduceMul, Int.reduceToNat, List.reduceReplicate, Nat.reduceLeDiff, Nat.reduceLT, Int.reduceLT, Int.reduceLE, Int.reduceEq])
  repeat' (first | with_reducible refine inw ?_ | simp (maxSteps := 900000) (disch := omega) only [go_sem, Nat.reduceEqDiff, ↓reduceIte, reduceCtorEq, Nat.reduceAdd, Nat.reduceMul, Int.reduceToNat, List.reduceReplicate, Nat.reduceLeDiff, Nat.reduceLT, Int.reduceLT, Int.reduceLE, Int.reduceEq] | with_reducible refine pickB_f ?_ | with_reducible refine giv_intro fun _h => ?_ | with_reducible refine alt_intro ?_ fun _h => ?_ | with_reducible refine pickD_nil ?_ | (with_reducible refine brc (fun _h => ?_) fun _h => ?_) <;> first | (exfalso; omega) | simp only [decide_eq_false _h] | simp only [(_h : (_ : Bool) = _)] | simp only [decide_eq_true _h] | skip)
  refine nil_row 7 9 1 (by simp (maxSteps := 900000) (disch := omega) only [go_sem, Nat.reduceEqDiff, ↓reduceIte, reduceCtorEq, Nat.reduceAdd, Nat.reduceMul, Int.reduceToNat, List.reduceReplicate, Nat.reduceLeDiff, Nat.reduceLT, Int.reduceLT, Int.reduceLE, Int.reduceEq]) ?_
  (refine loopC hS [1, 2, 3] (by simp only [go_sem, Nat.reduceEqDiff, ↓reduceIte, reduceCtorEq, Nat.reduceAdd, Nat.reduceMul, Int.reduceToNat, List.reduceReplicate, Nat.reduceLeDiff, Nat.reduceLT, Int.reduceLT, Int.reduceLE, Int.reduceEq]; try rfl) (fun (i : Nat) => [(7, own S 1 (harmT s l (w.take i) 0)), (8, intA (clsT s (harmT s l (w.take i) 0) 0)), (9, intA i)]) (fun (i : Nat) => [some (.row 37 1 [sl s]), rowO 9 (harmT s l (w.take i) 0)]) (fun (i : Nat) => i ≤ w.length) (fun (i : Nat) => w.length - i) (0) ?_ (by intro s; first | (simp only [List.length_cons, List.length_nil]; done) | rfl | (rcases s with ⟨_, _⟩; rfl) | (rcases s with ⟨_, _, _⟩; rfl) | (rcases s with ⟨_, _, _, _⟩; rfl) | (rcases s with ⟨_, _, _, _, _⟩; rfl)) ?_)
  · simp (maxSteps := 900000) (disch := omega) only [go_sem, Nat.reduceEqDiff, ↓reduceIte, reduceCtorEq, Nat.reduceAdd, Nat.reduceMul, Int.reduceToNat, List.reduceReplicate, Nat.reduceLeDiff, Nat.reduceLT, Int.reduceLT, Int.reduceLE, Int.reduceEq]
    exact ⟨Nat.zero_le _, ⟨⟨rfl, rfl⟩, rfl⟩, rfl⟩
  rintro i hi
  replace hi : i ≤ w.length := hi
  have hlh := harmT_len s l (w.take i) 0
  rw [List.length_take] at hlh
  by_cases hil : i < w.length
  · have hcb : clsT s (harmT s l (w.take i) 0) 0 ≤ 5 := by
      have key : ∀ (v : List Str) (c : Nat), c ≤ 5 → clsT s v c ≤ 5 := by
        intro v
        induction v with
        | nil => exact fun c h => h
        | cons y v ih => exact fun c h => ih _ (by unfold aftT; have := hcl y; split <;> omega)
      exact key _ _ (by omega)
    have hst : harmT s l (w.take (i + 1)) 0 = harmT s l (w.take i) 0 ++ [wrT l (nth w i) (clsT s (harmT s l (w.take i) 0) 0)] := by
      rw [List.take_add_one, nth_get? hil]; exact harmT_snoc s l _ _ 0
    have hcs : clsT s (harmT s l (w.take (i + 1)) 0) 0 = aftT s (wrT l (nth w i) (clsT s (harmT s l (w.take i) 0) 0)) (clsT s (harmT s l (w.take i) 0) 0) := by rw [hst, clsT_snoc]
    have c1 := rWritten_ok l (nth w i) (clsT s (harmT s l (w.take i) 0) 0) (by omega) hd hs
    have c2 := rAfter_ok s (wrT l (nth w i) (clsT s (harmT s l (w.take i) 0) 0)) (clsT s (harmT s l (w.take i) 0) 0)
    rw [← hcs] at c2
    generalize wrT l (nth w i) (clsT s (harmT s l (w.take i) 0) 0) = y at *
    generalize clsT s (harmT s l (w.take i) 0) 0 = k at *
    repeat' (first | with_reducible refine inw ?_ | simp (maxSteps := 900000) (disch := omega) only [go_sem, Nat.reduceEqDiff, ↓reduceIte, reduceCtorEq, Nat.reduceAdd, Nat.reduceMul, Int.reduceToNat, List.reduceReplicate, Nat.reduceLeDiff, Nat.reduceLT, Int.reduceLT, Int.reduceLE, Int.reduceEq] | (with_reducible apply call (c1)); (focus simp (maxSteps := 900000) (disch := omega) only [go_sem, Nat.reduceEqDiff, ↓reduceIte, reduceCtorEq, Nat.reduceAdd, Nat.reduceMul, Int.reduceToNat, List.reduceReplicate, Nat.reduceLeDiff, Nat.reduceLT, Int.reduceLT, Int.reduceLE, Int.reduceEq] <;> rfl) | (with_reducible apply call (c2)); (focus simp (maxSteps := 900000) (disch := omega) only [go_sem, Nat.reduceEqDiff, ↓reduceIte, reduceCtorEq, Nat.reduceAdd, Nat.reduceMul, Int.reduceToNat, List.reduceReplicate, Nat.reduceLeDiff, Nat.reduceLT, Int.reduceLT, Int.reduceLE, Int.reduceEq] <;> rfl) | with_reducible refine pickB_f ?_ | with_reducible refine giv_intro fun _h => ?_ | with_reducible refine alt_intro ?_ fun _h => ?_ | with_reducible refine pickD_nil ?_ | (with_reducible refine brc (fun _h => ?_) fun _h => ?_) <;> first | (exfalso; omega) | simp only [decide_eq_false _h] | simp only [(_h : (_ : Bool) = _)] | simp only [decide_eq_true _h] | skip)
    have h5 : (harmT s l (w.take (i + 1)) 0).length = (harmT s l (w.take i) 0).length + 1 := by rw [hst, List.length_append, List.length_singleton]
    exact ⟨i + 1, ⟨by omega, by omega⟩, ⟨⟨h5.symm, h5.symm⟩, rfl, by omega⟩, by rw [hst]⟩
  · rw [List.take_of_length_le (by omega)]
    repeat' (first | with_reducible refine inw ?_ | simp (maxSteps := 900000) (disch := omega) only [go_sem, Nat.reduceEqDiff, ↓reduceIte, reduceCtorEq, Nat.reduceAdd, Nat.reduceMul, Int.reduceToNat, List.reduceReplicate, Nat.reduceLeDiff, Nat.reduceLT, Int.reduceLT, Int.reduceLE, Int.reduceEq] | with_reducible refine pickB_f ?_ | with_reducible refine giv_intro fun _h => ?_ | with_reducible refine alt_intro ?_ fun _h => ?_ | with_reducible refine pickD_nil ?_ | (with_reducible refine brc (fun _h => ?_) fun _h => ?_) <;> first | (exfalso; omega) | simp only [decide_eq_false _h] | simp only [(_h : (_ : Bool) = _)] | simp only [decide_eq_true _h] | skip)
    all_goals skip
/-- ablaut/ablautref13.Archs: 1 parameters, 0 captured -/
def s133 : SC := .seq (.reg [o1 2 (.mv (cI 0))])
  (.seq (.seq (.reg [o1 9 (.mv (.t 0)),
     o1 10 (.lenL (.t 9)),
     o1 11 (.bin .gtr (.t 10) (cI 24))])
    (.cond (.t 11) (.seq (.reg [o1 2 (.mv (cI 3))])
      (.ret)) (.skip)))
   (.seq (.seq (.reg [o1 3 (.mv (cI 0))])
     (.block 0 (.loop (.seq (.seq (.reg [o1 12 (.mv (.t 3)),
          o1 13 (.mv (.t 0)),
          o1 14 (.lenL (.t 13)),
          o1 15 (.bin .lss (.t 12) (.t 14))])
         (.cond (.t 15) (.skip) (.exit 0)))
        (.seq (.block 1 (.seq (.reg [o1 18 (.mv (.t 0)),
            o1 19 (.mv (.t 3)),
            o1 20 (.iaddr 2 (.t 18) (.t 19)),
            o1 21 (.faddr 1 (.t 20)),
            o1 22 (.load none (.t 21)),
            o1 23 (.lenL (.t 22)),
            o1 24 (.bin .gtr (.t 23) (cI 6))])
           (.cond (.t 24) (.seq (.reg [o1 2 (.mv (cI 3))])
             (.ret)) (.skip))))
         (.reg [o1 16 (.mv (.t 3)),
          o1 17 (.bin .add (.t 16) (cI 1)),
          o1 3 (.mv (.t 17))]))))))
    (.seq (.seq (.reg [o1 4 (.mv (cI 0))])
      (.block 2 (.loop (.seq (.seq (.reg [o1 25 (.mv (.t 4)),
           o1 26 (.mv (.t 0)),
           o1 27 (.lenL (.t 26)),
           o1 28 (.bin .lss (.t 25) (.t 27))])
          (.cond (.t 28) (.skip) (.exit 2)))
         (.seq (.block 3 (.seq (.reg [o1 31 (.mv (.t 0)),
             o1 32 (.mv (.t 4)),
             o1 33 (.iaddr 2 (.t 31) (.t 32)),
             o1 34 (.faddr 1 (.t 33)),
             o1 35 (.load none (.t 34)),
             o1 36 (.call (.f 55) [(.t 35)]),
             o1 5 (.mv (.t 36))])
            (.seq (.reg [o1 37 (.mv (.t 5)),
              o1 38 (.bin .neq (.t 37) (cI 0))])
             (.cond (.t 38) (.seq (.reg [o1 39 (.mv (.t 5)),
                o1 2 (.mv (.t 39))])
               (.ret)) (.skip)))))
          (.reg [o1 29 (.mv (.t 4)),
           o1 30 (.bin .add (.t 29) (cI 1)),
           o1 4 (.mv (.t 30))]))))))
     (.seq (.seq (.reg [o1 6 (.mv (cI 0))])
       (.block 4 (.loop (.seq (.seq (.reg [o1 40 (.mv (.t 6)),
            o1 41 (.mv (.t 0)),
            o1 42 (.lenL (.t 41)),
            o1 43 (.bin .lss (.t 40) (.t 42))])
           (.cond (.t 43) (.skip) (.exit 4)))
          (.seq (.block 5 (.seq (.seq (.reg [o1 46 (.mv (.t 0)),
               o1 47 (.mv (.t 6)),
               o1 48 (.iaddr 2 (.t 46) (.t 47)),
               o1 49 (.faddr 0 (.t 48)),
               o1 50 (.load none (.t 49)),
               o1 51 (.call (.f 109) [(.t 50)]),
               o1 52 (.un .not (.t 51))])
              (.cond (.t 52) (.seq (.reg [o1 2 (.mv (cI 1))])
                (.ret)) (.skip)))
             (.seq (.seq (.reg [o1 7 (.mv (cI 0))])
               (.block 6 (.loop (.seq (.seq (.reg [o1 53 (.mv (.t 7)),
                    o1 54 (.mv (.t 0)),
                    o1 55 (.mv (.t 6)),
                    o1 56 (.iaddr 2 (.t 54) (.t 55)),
                    o1 57 (.faddr 1 (.t 56)),
                    o1 58 (.load none (.t 57)),
                    o1 59 (.lenL (.t 58)),
                    o1 60 (.bin .lss (.t 53) (.t 59))])
                   (.cond (.t 60) (.skip) (.exit 6)))
                  (.seq (.block 7 (.seq (.reg [o1 63 (.mv (.t 0)),
                      o1 64 (.mv (.t 6)),
                      o1 65 (.iaddr 2 (.t 63) (.t 64)),
                      o1 66 (.faddr 1 (.t 65)),
                      o1 67 (.load none (.t 66)),
                      o1 68 (.mv (.t 7)),
                      o1 69 (.iaddr 1 (.t 67) (.t 68)),
                      o1 70 (.load none (.t 69)),
                      o1 71 (.lenL (.t 70)),
                      o1 72 (.bin .gtr (.t 71) (cI 1))])
                     (.cond (.t 72) (.seq (.reg [o1 2 (.mv (cI 1))])
                       (.ret)) (.skip))))
                   (.reg [o1 61 (.mv (.t 7)),
                    o1 62 (.bin .add (.t 61) (cI 1)),
                    o1 7 (.mv (.t 62))]))))))
              (.seq (.reg [o1 8 (.mv (cI 0))])
               (.block 8 (.loop (.seq (.seq (.reg [o1 73 (.mv (.t 8)),
                    o1 74 (.mv (.t 6)),
                    o1 75 (.bin .lss (.t 73) (.t 74))])
                   (.cond (.t 75) (.skip) (.exit 8)))
                  (.seq (.block 9 (.seq (.regD [o1 78 (.mv (.t 0)),
                      o1 79 (.mv (.t 8)),
                      o1 80 (.iaddr 2 (.t 78) (.t 79)),
                      o1 81 (.faddr 0 (.t 80)),
                      o1 82 (.load none (.t 81)),
                      o1 83 (.mv (.t 0)),
                      o1 84 (.mv (.t 6)),
                      o1 85 (.iaddr 2 (.t 83) (.t 84)),
                      o1 86 (.faddr 0 (.t 85)),
                      o1 87 (.load none (.t 86)),
                      o1 88 (.bin .eql (.t 82) (.t 87))])
                     (.cond (.t 88) (.seq (.reg [o1 2 (.mv (cI 1))])
                       (.ret)) (.skip))))
                   (.reg [o1 76 (.mv (.t 8)),
                    o1 77 (.bin .add (.t 76) (cI 1)),
                    o1 8 (.mv (.t 77))])))))))))
           (.reg [o1 44 (.mv (.t 6)),
            o1 45 (.bin .add (.t 44) (cI 1)),
            o1 6 (.mv (.t 45))]))))))
      (.seq (.reg [o1 2 (.mv (cI 0))])
       (.ret))))))
theorem s133_ok : lookF Try.prog 133 = some (s133, 89, [.tmp 2]) := by kernel_rfl
set_option maxHeartbeats 1000000 in
theorem rArchs_ok (l : List Arch) (hsz : ∀ a ∈ l, a.1.size ≤ 4611686018427387904) : Fn P 133 [sl l] (intA (archErr l)) := by
  by_cases hL : 24 < l.length
  · rw [archErr_3 (.inl hL)]
    (refine fn_look s133_ok (by simp) (by intro k; simp only [go_sem, Nat.reduceEqDiff, ↓reduceIte, reduceCtorEq, Nat.reduceAdd, Nat.reduceMul, Int.reduceToNat, List.reduceReplicate, Nat.reduceLeDiff, Nat.reduceLT, Int.reduceLT, Int.reduceLE, Int.reduceEq]) fun S hS => cwp_sound _ _ _ _ ?_; simp (maxSteps := 900000) (disch := omega) only [s133, go_sem, Nat.reduceEqDiff, ↓reduceIte, reduceCtorEq, Nat.reduceAdd, Nat.reduceMul, Int.reduceToNat, List.reduceReplicate, Nat.reduceLeDiff, Nat.reduceLT, Int.reduceLT, Int.reduceLE, Int.reduceEq])
    repeat' (first | with_reducible refine inw ?_ | simp (maxSteps := 900000) (disch := omega) only [go_sem, Nat.reduceEqDiff, ↓reduceIte, reduceCtorEq, Nat.reduceAdd, Nat.reduceMul, Int.reduceToNat, List.reduceReplicate, Nat.reduceLeDiff, Nat.reduceLT, Int.reduceLT, Int.reduceLE, Int.reduceEq] | with_reducible refine pickB_f ?_ | with_reducible refine giv_intro fun _h => ?_ | with_reducible refine alt_intro ?_ fun _h => ?_ | with_reducible refine pickD_nil ?_ | (with_reducible refine brc (fun _h => ?_) fun _h => ?_) <;> first | (exfalso; omega) | simp only [decide_eq_false _h] | simp only [(_h : (_ : Bool) = _)] | simp only [decide_eq_true _h] | skip)
  (refine fn_look s133_ok (by simp) (by intro k; simp only [go_sem, Nat.reduceEqDiff, ↓reduceIte, reduceCtorEq, Nat.reduceAdd, Nat.reduceMul, Int.reduceToNat, List.reduceReplicate, Nat.reduceLeDiff, Nat.reduceLT, Int.reduceLT, Int.reduceLE, Int.reduceEq]) fun S hS => cwp_sound _ _ _ _ ?_; simp (maxSteps := 900000) (disch := omega) only [s133, go_sem, Nat.reduceEqDiff, ↓reduceIte, reduceCtorEq, Nat.reduceAdd, Nat.reduceMul, Int.reduceToNat, List.reduceReplicate, Nat.reduceLeDiff, Nat.reduceLT, Int.reduceLT, Int.reduceLE, Int.reduceEq])
  repeat' (first | with_reducible refine inw ?_ | simp (maxSteps := 900000) (disch := omega) only [go_sem, Nat.reduceEqDiff, ↓reduceIte, reduceCtorEq, Nat.reduceAdd, Nat.reduceMul, Int.reduceToNat, List.reduceReplicate, Nat.reduceLeDiff, Nat.reduceLT, Int.reduceLT, Int.reduceLE, Int.reduceEq] | with_reducible refine pickB_f ?_ | with_reducible refine giv_intro fun _h => ?_ | with_reducible refine alt_intro ?_ fun _h => ?_ | with_reducible refine pickD_nil ?_ | (with_reducible refine brc (fun _h => ?_) fun _h => ?_) <;> first | (exfalso; omega) | simp only [decide_eq_false _h] | simp only [(_h : (_ : Bool) = _)] | simp only [decide_eq_true _h] | skip)
  (refine loopC hS [0] (by simp only [go_sem, Nat.reduceEqDiff, ↓reduceIte, reduceCtorEq, Nat.reduceAdd, Nat.reduceMul, Int.reduceToNat, List.reduceReplicate, Nat.reduceLeDiff, Nat.reduceLT, Int.reduceLT, Int.reduceLE, Int.reduceEq]; try rfl) (fun (i : Nat) => [(3, intA i)]) (fun (i : Nat) => []) (fun (i : Nat) => i ≤ l.length ∧ ∀ j, j < i → archL (nth l j) = false) (fun (i : Nat) => l.length - i) (0) ?_ (by intro s; first | (simp only [List.length_cons, List.length_nil]; done) | rfl | (rcases s with ⟨_, _⟩; rfl) | (rcases s with ⟨_, _, _⟩; rfl) | (rcases s with ⟨_, _, _, _⟩; rfl) | (rcases s with ⟨_, _, _, _, _⟩; rfl)) ?_)
  · simp (maxSteps := 900000) (disch := omega) only [go_sem, Nat.reduceEqDiff, ↓reduceIte, reduceCtorEq, Nat.reduceAdd, Nat.reduceMul, Int.reduceToNat, List.reduceReplicate, Nat.reduceLeDiff, Nat.reduceLT, Int.reduceLT, Int.reduceLE, Int.reduceEq]
    exact ⟨Nat.zero_le _, fun j hj => absurd hj (Nat.not_lt_zero _)⟩
  rintro i ⟨hi, hA⟩
  replace hi : i ≤ l.length := hi
  replace hA : ∀ j, j < i → archL (nth l j) = false := hA
  by_cases hil : i < l.length
  · by_cases h6 : 6 < (nth l i).2.length
    · rw [archErr_3 (.inr (List.any_eq_true.2 ⟨_, nth_mem hil, decide_eq_true h6⟩))]
      repeat' (first | with_reducible refine inw ?_ | simp (maxSteps := 900000) (disch := omega) only [go_sem, Nat.reduceEqDiff, ↓reduceIte, reduceCtorEq, Nat.reduceAdd, Nat.reduceMul, Int.reduceToNat, List.reduceReplicate, Nat.reduceLeDiff, Nat.reduceLT, Int.reduceLT, Int.reduceLE, Int.reduceEq] | with_reducible refine pickB_f ?_ | with_reducible refine giv_intro fun _h => ?_ | with_reducible refine alt_intro ?_ fun _h => ?_ | with_reducible refine pickD_nil ?_ | (with_reducible refine brc (fun _h => ?_) fun _h => ?_) <;> first | (exfalso; omega) | simp only [decide_eq_false _h] | simp only [(_h : (_ : Bool) = _)] | simp only [decide_eq_true _h] | skip)
    · repeat' (first | with_reducible refine inw ?_ | simp (maxSteps := 900000) (disch := omega) only [go_sem, Nat.reduceEqDiff, ↓reduceIte, reduceCtorEq, Nat.reduceAdd, Nat.reduceMul, Int.reduceToNat, List.reduceReplicate, Nat.reduceLeDiff, Nat.reduceLT, Int.reduceLT, Int.reduceLE, Int.reduceEq] | with_reducible refine pickB_f ?_ | with_reducible refine giv_intro fun _h => ?_ | with_reducible refine alt_intro ?_ fun _h => ?_ | with_reducible refine pickD_nil ?_ | (with_reducible refine brc (fun _h => ?_) fun _h => ?_) <;> first | (exfalso; omega) | simp only [decide_eq_false _h] | simp only [(_h : (_ : Bool) = _)] | simp only [decide_eq_true _h] | skip)
      refine ⟨i + 1, ⟨by omega, by omega, fun j hj => ?_⟩, by omega⟩
      rcases Nat.lt_or_ge j i with h | h
      · exact hA j h
      · obtain rfl : j = i := by omega
        exact decide_eq_false h6
  have hany : ¬(24 < l.length ∨ l.any archL = true) := by
    rintro (h | h)
    · exact hL h
    · obtain ⟨a, ha, h2⟩ := List.any_eq_true.1 h
      obtain ⟨j, hj, rfl⟩ := List.getElem_of_mem ha
      rw [← nth_eq hj, hA j (by omega)] at h2; cases h2
  clear hA
  repeat' (first | with_reducible refine inw ?_ | simp (maxSteps := 900000) (disch := omega) only [go_sem, Nat.reduceEqDiff, ↓reduceIte, reduceCtorEq, Nat.reduceAdd, Nat.reduceMul, Int.reduceToNat, List.reduceReplicate, Nat.reduceLeDiff, Nat.reduceLT, Int.reduceLT, Int.reduceLE, Int.reduceEq] | with_reducible refine pickB_f ?_ | with_reducible refine giv_intro fun _h => ?_ | with_reducible refine alt_intro ?_ fun _h => ?_ | with_reducible refine pickD_nil ?_ | (with_reducible refine brc (fun _h => ?_) fun _h => ?_) <;> first | (exfalso; omega) | simp only [decide_eq_false _h] | simp only [(_h : (_ : Bool) = _)] | simp only [decide_eq_true _h] | skip)
  (refine loopC hS [0] (by simp only [go_sem, Nat.reduceEqDiff, ↓reduceIte, reduceCtorEq, Nat.reduceAdd, Nat.reduceMul, Int.reduceToNat, List.reduceReplicate, Nat.reduceLeDiff, Nat.reduceLT, Int.reduceLT, Int.reduceLE, Int.reduceEq]; try rfl) (fun (i : Nat) => [(4, intA i)]) (fun (i : Nat) => []) (fun (i : Nat) => i ≤ l.length ∧ archW l = archW (l.drop i)) (fun (i : Nat) => l.length - i) (0) ?_ (by intro s; first | (simp only [List.length_cons, List.length_nil]; done) | rfl | (rcases s with ⟨_, _⟩; rfl) | (rcases s with ⟨_, _, _⟩; rfl) | (rcases s with ⟨_, _, _, _⟩; rfl) | (rcases s with ⟨_, _, _, _, _⟩; rfl)) ?_)
  · simp (maxSteps := 900000) (disch := omega) only [go_sem, Nat.reduceEqDiff, ↓reduceIte, reduceCtorEq, Nat.reduceAdd, Nat.reduceMul, Int.reduceToNat, List.reduceReplicate, Nat.reduceLeDiff, Nat.reduceLT, Int.reduceLT, Int.reduceLE, Int.reduceEq]
    exact Nat.zero_le _
  rintro i ⟨hi, hI⟩
  replace hi : i ≤ l.length := hi
  replace hI : archW l = archW (l.drop i) := hI
  by_cases hil : i < l.length
  · rw [archW_step hil] at hI
    have c1 := Words_ok (nth l i).2
    by_cases hw : wordsErr (nth l i).2 ≠ 0
    · rw [if_pos hw] at hI
      rw [archErr_w hany (by rw [hI]; exact hw), hI]
      repeat' (first | with_reducible refine inw ?_ | simp (maxSteps := 900000) (disch := omega) only [go_sem, Nat.reduceEqDiff, ↓reduceIte, reduceCtorEq, Nat.reduceAdd, Nat.reduceMul, Int.reduceToNat, List.reduceReplicate, Nat.reduceLeDiff, Nat.reduceLT, Int.reduceLT, Int.reduceLE, Int.reduceEq] | (with_reducible apply call (c1)); (focus simp (maxSteps := 900000) (disch := omega) only [go_sem, Nat.reduceEqDiff, ↓reduceIte, reduceCtorEq, Nat.reduceAdd, Nat.reduceMul, Int.reduceToNat, List.reduceReplicate, Nat.reduceLeDiff, Nat.reduceLT, Int.reduceLT, Int.reduceLE, Int.reduceEq] <;> rfl) | with_reducible refine pickB_f ?_ | with_reducible refine giv_intro fun _h => ?_ | with_reducible refine alt_intro ?_ fun _h => ?_ | with_reducible refine pickD_nil ?_ | (with_reducible refine brc (fun _h => ?_) fun _h => ?_) <;> first | (exfalso; omega) | simp only [decide_eq_false _h] | simp only [(_h : (_ : Bool) = _)] | simp only [decide_eq_true _h] | skip)
    · rw [if_neg hw] at hI
      repeat' (first | with_reducible refine inw ?_ | simp (maxSteps := 900000) (disch := omega) only [go_sem, Nat.reduceEqDiff, ↓reduceIte, reduceCtorEq, Nat.reduceAdd, Nat.reduceMul, Int.reduceToNat, List.reduceReplicate, Nat.reduceLeDiff, Nat.reduceLT, Int.reduceLT, Int.reduceLE, Int.reduceEq] | (with_reducible apply call (c1)); (focus simp (maxSteps := 900000) (disch := omega) only [go_sem, Nat.reduceEqDiff, ↓reduceIte, reduceCtorEq, Nat.reduceAdd, Nat.reduceMul, Int.reduceToNat, List.reduceReplicate, Nat.reduceLeDiff, Nat.reduceLT, Int.reduceLT, Int.reduceLE, Int.reduceEq] <;> rfl) | with_reducible refine pickB_f ?_ | with_reducible refine giv_intro fun _h => ?_ | with_reducible refine alt_intro ?_ fun _h => ?_ | with_reducible refine pickD_nil ?_ | (with_reducible refine brc (fun _h => ?_) fun _h => ?_) <;> first | (exfalso; omega) | simp only [decide_eq_false _h] | simp only [(_h : (_ : Bool) = _)] | simp only [decide_eq_true _h] | skip)
      exact ⟨i + 1, ⟨by omega, by omega, hI⟩, by omega⟩
  rw [drop_end (by omega), archW] at hI
  have hws := archW_words hI
  repeat' (first | with_reducible refine inw ?_ | simp (maxSteps := 900000) (disch := omega) only [go_sem, Nat.reduceEqDiff, ↓reduceIte, reduceCtorEq, Nat.reduceAdd, Nat.reduceMul, Int.reduceToNat, List.reduceReplicate, Nat.reduceLeDiff, Nat.reduceLT, Int.reduceLT, Int.reduceLE, Int.reduceEq] | with_reducible refine pickB_f ?_ | with_reducible refine giv_intro fun _h => ?_ | with_reducible refine alt_intro ?_ fun _h => ?_ | with_reducible refine pickD_nil ?_ | (with_reducible refine brc (fun _h => ?_) fun _h => ?_) <;> first | (exfalso; omega) | simp only [decide_eq_false _h] | simp only [(_h : (_ : Bool) = _)] | simp only [decide_eq_true _h] | skip)
  (refine loopC hS [0] (by simp only [go_sem, Nat.reduceEqDiff, ↓reduceIte, reduceCtorEq, Nat.reduceAdd, Nat.reduceMul, Int.reduceToNat, List.reduceReplicate, Nat.reduceLeDiff, Nat.reduceLT, Int.reduceLT, Int.reduceLE, Int.reduceEq]; try rfl) (fun (i : Nat) => [(6, intA i)]) (fun (i : Nat) => []) (fun (i : Nat) => i ≤ l.length ∧ ∀ j, j < i → badA l j = false) (fun (i : Nat) => l.length - i) (0) ?_ (by intro s; first | (simp only [List.length_cons, List.length_nil]; done) | rfl | (rcases s with ⟨_, _⟩; rfl) | (rcases s with ⟨_, _, _⟩; rfl) | (rcases s with ⟨_, _, _, _⟩; rfl) | (rcases s with ⟨_, _, _, _, _⟩; rfl)) ?_)
  · simp (maxSteps := 900000) (disch := omega) only [go_sem, Nat.reduceEqDiff, ↓reduceIte, reduceCtorEq, Nat.reduceAdd, Nat.reduceMul, Int.reduceToNat, List.reduceReplicate, Nat.reduceLeDiff, Nat.reduceLT, Int.reduceLT, Int.reduceLE, Int.reduceEq]
    exact ⟨Nat.zero_le _, fun j hj => absurd hj (Nat.not_lt_zero _)⟩
  rintro i ⟨hi, hB⟩
  replace hi : i ≤ l.length := hi
  replace hB : ∀ j, j < i → badA l j = false := hB
  by_cases hil : i < l.length
  · have c1 := IsSymbol_ok (nth l i).1 (hsz _ (nth_mem hil))
    rw [show (okText (nth l i).1 && (decide (1 ≤ (nth l i).1.size) && decide ((nth l i).1.size ≤ 16))) = goodS (nth l i).1 from rfl] at c1
    have hbad : badA l i = true → archErr l = 1 := fun h => archErr_1 hany hI hil h
    by_cases hg : goodS (nth l i).1 = false
    · rw [hbad (by rw [badA, hg]; rfl)]
      rw [hg] at c1
      repeat' (first | with_reducible refine inw ?_ | simp (maxSteps := 900000) (disch := omega) only [go_sem, Nat.reduceEqDiff, ↓reduceIte, reduceCtorEq, Nat.reduceAdd, Nat.reduceMul, Int.reduceToNat, List.reduceReplicate, Nat.reduceLeDiff, Nat.reduceLT, Int.reduceLT, Int.reduceLE, Int.reduceEq] | (with_reducible apply call (c1)); (focus simp (maxSteps := 900000) (disch := omega) only [go_sem, Nat.reduceEqDiff, ↓reduceIte, reduceCtorEq, Nat.reduceAdd, Nat.reduceMul, Int.reduceToNat, List.reduceReplicate, Nat.reduceLeDiff, Nat.reduceLT, Int.reduceLT, Int.reduceLE, Int.reduceEq] <;> rfl) | with_reducible refine pickB_f ?_ | with_reducible refine giv_intro fun _h => ?_ | with_reducible refine alt_intro ?_ fun _h => ?_ | with_reducible refine pickD_nil ?_ | (with_reducible refine brc (fun _h => ?_) fun _h => ?_) <;> first | (exfalso; omega) | simp only [decide_eq_false _h] | simp only [(_h : (_ : Bool) = _)] | simp only [decide_eq_true _h] | skip)
    · have hg : goodS (nth l i).1 = true := by simpa using hg
      rw [hg] at c1
      repeat' (first | with_reducible refine inw ?_ | simp (maxSteps := 900000) (disch := omega) only [go_sem, Nat.reduceEqDiff, ↓reduceIte, reduceCtorEq, Nat.reduceAdd, Nat.reduceMul, Int.reduceToNat, List.reduceReplicate, Nat.reduceLeDiff, Nat.reduceLT, Int.reduceLT, Int.reduceLE, Int.reduceEq] | (with_reducible apply call (c1)); (focus simp (maxSteps := 900000) (disch := omega) only [go_sem, Nat.reduceEqDiff, ↓reduceIte, reduceCtorEq, Nat.reduceAdd, Nat.reduceMul, Int.reduceToNat, List.reduceReplicate, Nat.reduceLeDiff, Nat.reduceLT, Int.reduceLT, Int.reduceLE, Int.reduceEq] <;> rfl) | with_reducible refine pickB_f ?_ | with_reducible refine giv_intro fun _h => ?_ | with_reducible refine alt_intro ?_ fun _h => ?_ | with_reducible refine pickD_nil ?_ | (with_reducible refine brc (fun _h => ?_) fun _h => ?_) <;> first | (exfalso; omega) | simp only [decide_eq_false _h] | simp only [(_h : (_ : Bool) = _)] | simp only [decide_eq_true _h] | skip)
      (refine loopC hS [0, 6] (by simp only [go_sem, Nat.reduceEqDiff, ↓reduceIte, reduceCtorEq, Nat.reduceAdd, Nat.reduceMul, Int.reduceToNat, List.reduceReplicate, Nat.reduceLeDiff, Nat.reduceLT, Int.reduceLT, Int.reduceLE, Int.reduceEq]; try rfl) (fun (k : Nat) => [(7, intA k)]) (fun (k : Nat) => []) (fun (k : Nat) => k ≤ (nth l i).2.length ∧ ∀ j, j < k → (nth (nth l i).2 j).length ≤ 1) (fun (k : Nat) => (nth l i).2.length - k) (0) ?_ (by intro s; first | (simp only [List.length_cons, List.length_nil]; done) | rfl | (rcases s with ⟨_, _⟩; rfl) | (rcases s with ⟨_, _, _⟩; rfl) | (rcases s with ⟨_, _, _, _⟩; rfl) | (rcases s with ⟨_, _, _, _, _⟩; rfl)) ?_)
      · simp (maxSteps := 900000) (disch := omega) only [go_sem, Nat.reduceEqDiff, ↓reduceIte, reduceCtorEq, Nat.reduceAdd, Nat.reduceMul, Int.reduceToNat, List.reduceReplicate, Nat.reduceLeDiff, Nat.reduceLT, Int.reduceLT, Int.reduceLE, Int.reduceEq]
        exact ⟨Nat.zero_le _, fun j hj => absurd hj (Nat.not_lt_zero _)⟩
      rintro k ⟨hk, hK⟩
      replace hk : k ≤ (nth l i).2.length := hk
      replace hK : ∀ j, j < k → (nth (nth l i).2 j).length ≤ 1 := hK
      by_cases hkl : k < (nth l i).2.length
      · by_cases h1 : 1 < (nth (nth l i).2 k).length
        · rw [hbad (by rw [badA, List.any_eq_true.2 ⟨_, nth_mem hkl, decide_eq_true h1⟩]; simp)]
          repeat' (first | with_reducible refine inw ?_ | simp (maxSteps := 900000) (disch := omega) only [go_sem, Nat.reduceEqDiff, ↓reduceIte, reduceCtorEq, Nat.reduceAdd, Nat.reduceMul, Int.reduceToNat, List.reduceReplicate, Nat.reduceLeDiff, Nat.reduceLT, Int.reduceLT, Int.reduceLE, Int.reduceEq] | with_reducible refine pickB_f ?_ | with_reducible refine giv_intro fun _h => ?_ | with_reducible refine alt_intro ?_ fun _h => ?_ | with_reducible refine pickD_nil ?_ | (with_reducible refine brc (fun _h => ?_) fun _h => ?_) <;> first | (exfalso; omega) | simp only [decide_eq_false _h] | simp only [(_h : (_ : Bool) = _)] | simp only [decide_eq_true _h] | skip)
        · repeat' (first | with_reducible refine inw ?_ | simp (maxSteps := 900000) (disch := omega) only [go_sem, Nat.reduceEqDiff, ↓reduceIte, reduceCtorEq, Nat.reduceAdd, Nat.reduceMul, Int.reduceToNat, List.reduceReplicate, Nat.reduceLeDiff, Nat.reduceLT, Int.reduceLT, Int.reduceLE, Int.reduceEq] | with_reducible refine pickB_f ?_ | with_reducible refine giv_intro fun _h => ?_ | with_reducible refine alt_intro ?_ fun _h => ?_ | with_reducible refine pickD_nil ?_ | (with_reducible refine brc (fun _h => ?_) fun _h => ?_) <;> first | (exfalso; omega) | simp only [decide_eq_false _h] | simp only [(_h : (_ : Bool) = _)] | simp only [decide_eq_true _h] | skip)
          refine ⟨k + 1, ⟨by omega, by omega, fun j hj => ?_⟩, by omega⟩
          rcases Nat.lt_or_ge j k with h | h
          · exact hK j h
          · obtain rfl : j = k := by omega
            omega
      repeat' (first | with_reducible refine inw ?_ | simp (maxSteps := 900000) (disch := omega) only [go_sem, Nat.reduceEqDiff, ↓reduceIte, reduceCtorEq, Nat.reduceAdd, Nat.reduceMul, Int.reduceToNat, List.reduceReplicate, Nat.reduceLeDiff, Nat.reduceLT, Int.reduceLT, Int.reduceLE, Int.reduceEq] | with_reducible refine pickB_f ?_ | with_reducible refine giv_intro fun _h => ?_ | with_reducible refine alt_intro ?_ fun _h => ?_ | with_reducible refine pickD_nil ?_ | (with_reducible refine brc (fun _h => ?_) fun _h => ?_) <;> first | (exfalso; omega) | simp only [decide_eq_false _h] | simp only [(_h : (_ : Bool) = _)] | simp only [decide_eq_true _h] | skip)
      (refine loopC hS [0, 6] (by simp only [go_sem, Nat.reduceEqDiff, ↓reduceIte, reduceCtorEq, Nat.reduceAdd, Nat.reduceMul, Int.reduceToNat, List.reduceReplicate, Nat.reduceLeDiff, Nat.reduceLT, Int.reduceLT, Int.reduceLE, Int.reduceEq]; try rfl) (fun (k : Nat) => [(8, intA k)]) (fun (k : Nat) => []) (fun (k : Nat) => k ≤ i ∧ ∀ j, j < k → (nth l j).1 ≠ (nth l i).1) (fun (k : Nat) => i - k) (0) ?_ (by intro s; first | (simp only [List.length_cons, List.length_nil]; done) | rfl | (rcases s with ⟨_, _⟩; rfl) | (rcases s with ⟨_, _, _⟩; rfl) | (rcases s with ⟨_, _, _, _⟩; rfl) | (rcases s with ⟨_, _, _, _, _⟩; rfl)) ?_)
      · simp (maxSteps := 900000) (disch := omega) only [go_sem, Nat.reduceEqDiff, ↓reduceIte, reduceCtorEq, Nat.reduceAdd, Nat.reduceMul, Int.reduceToNat, List.reduceReplicate, Nat.reduceLeDiff, Nat.reduceLT, Int.reduceLT, Int.reduceLE, Int.reduceEq]
        exact ⟨Nat.zero_le _, fun j hj => absurd hj (Nat.not_lt_zero _)⟩
      rintro q ⟨hq, hQ⟩
      replace hq : q ≤ i := hq
      replace hQ : ∀ j, j < q → (nth l j).1 ≠ (nth l i).1 := hQ
      by_cases hqi : q < i
      · by_cases h1 : (nth l q).1 = (nth l i).1
        · have hm : nth l q ∈ l.take i := by rw [nth_eq (by omega)]; exact List.mem_take_iff_getElem.2 ⟨q, by omega, rfl⟩
          rw [hbad (by rw [badA, show (l.take i).any (fun b => decide (b.1 = (nth l i).1)) = true from List.any_eq_true.2 ⟨_, hm, decide_eq_true h1⟩]; simp)]
          repeat' (first | with_reducible refine inw ?_ | simp (maxSteps := 900000) (disch := omega) only [go_sem, Nat.reduceEqDiff, ↓reduceIte, reduceCtorEq, Nat.reduceAdd, Nat.reduceMul, Int.reduceToNat, List.reduceReplicate, Nat.reduceLeDiff, Nat.reduceLT, Int.reduceLT, Int.reduceLE, Int.reduceEq] | with_reducible refine pickB_f ?_ | with_reducible refine giv_intro fun _h => ?_ | with_reducible refine alt_intro ?_ fun _h => ?_ | with_reducible refine pickD_nil ?_ | (with_reducible refine brc (fun _h => ?_) fun _h => ?_) <;> first | (exfalso; omega) | simp only [decide_eq_false _h] | simp only [(_h : (_ : Bool) = _)] | simp only [decide_eq_true _h] | skip)
          all_goals exact absurd h1 (by assumption)
        · repeat' (first | with_reducible refine inw ?_ | simp (maxSteps := 900000) (disch := omega) only [go_sem, Nat.reduceEqDiff, ↓reduceIte, reduceCtorEq, Nat.reduceAdd, Nat.reduceMul, Int.reduceToNat, List.reduceReplicate, Nat.reduceLeDiff, Nat.reduceLT, Int.reduceLT, Int.reduceLE, Int.reduceEq] | with_reducible refine pickB_f ?_ | with_reducible refine giv_intro fun _h => ?_ | with_reducible refine alt_intro ?_ fun _h => ?_ | with_reducible refine pickD_nil ?_ | (with_reducible refine brc (fun _h => ?_) fun _h => ?_) <;> first | (exfalso; omega) | simp only [decide_eq_false _h] | simp only [(_h : (_ : Bool) = _)] | simp only [decide_eq_true _h] | skip)
          all_goals first
            | exact absurd (by assumption) h1
            | (refine ⟨q + 1, ⟨by omega, by omega, fun j hj => ?_⟩, by omega⟩
               rcases Nat.lt_or_ge j q with h | h
               · exact hQ j h
               · obtain rfl : j = q := by omega
                 exact h1)
      · obtain rfl : q = i := by omega
        have hb0 : badA l q = false := by
          have e1 : (nth l q).2.any (fun w => decide (1 < w.length)) = false := by
            rw [List.any_eq_false]
            intro w hw
            obtain ⟨j, hj, rfl⟩ := List.getElem_of_mem hw
            have := hK j (by omega)
            rw [nth_eq hj] at this
            simp only [decide_eq_true_eq]; omega
          have e2 : (l.take q).any (fun b => decide (b.1 = (nth l q).1)) = false := by
            rw [List.any_eq_false]
            intro b hb
            obtain ⟨j, hj, rfl⟩ := List.getElem_of_mem hb
            rw [List.length_take] at hj
            rw [List.getElem_take, ← nth_eq (by omega), decide_eq_true_eq]
            exact hQ j (by omega)
          rw [badA, hg, e1, e2]; rfl
        repeat' (first | with_reducible refine inw ?_ | simp (maxSteps := 900000) (disch := omega) only [go_sem, Nat.reduceEqDiff, ↓reduceIte, reduceCtorEq, Nat.reduceAdd, Nat.reduceMul, Int.reduceToNat, List.reduceReplicate, Nat.reduceLeDiff, Nat.reduceLT, Int.reduceLT, Int.reduceLE, Int.reduceEq] | with_reducible refine pickB_f ?_ | with_reducible refine giv_intro fun _h => ?_ | with_reducible refine alt_intro ?_ fun _h => ?_ | with_reducible refine pickD_nil ?_ | (with_reducible refine brc (fun _h => ?_) fun _h => ?_) <;> first | (exfalso; omega) | simp only [decide_eq_false _h] | simp only [(_h : (_ : Bool) = _)] | simp only [decide_eq_true _h] | skip)
        refine ⟨q + 1, ⟨by omega, by omega, fun j hj => ?_⟩, by omega⟩
        rcases Nat.lt_or_ge j q with h | h
        · exact hB j h
        · obtain rfl : j = q := by omega
          exact hb0
  · rw [archErr_0 hany hI fun j hj => hB j (by omega)]
    repeat' (first | with_reducible refine inw ?_ | simp (maxSteps := 900000) (disch := omega) only [go_sem, Nat.reduceEqDiff, ↓reduceIte, reduceCtorEq, Nat.reduceAdd, Nat.reduceMul, Int.reduceToNat, List.reduceReplicate, Nat.reduceLeDiff, Nat.reduceLT, Int.reduceLT, Int.reduceLE, Int.reduceEq] | with_reducible refine pickB_f ?_ | with_reducible refine giv_intro fun _h => ?_ | with_reducible refine alt_intro ?_ fun _h => ?_ | with_reducible refine pickD_nil ?_ | (with_reducible refine brc (fun _h => ?_) fun _h => ?_) <;> first | (exfalso; omega) | simp only [decide_eq_false _h] | simp only [(_h : (_ : Bool) = _)] | simp only [decide_eq_true _h] | skip)
/-- ablaut/harm.arches: 1 parameters, 0 captured -/
def s95 : SC := .seq (.reg [o1 2 (.mv (cI 0))])
  (.seq (.seq (.reg [o1 8 (.mv (.t 0)),
     o1 9 (.lenL (.t 8)),
     o1 10 (.bin .gtr (.t 9) (cI 24)),
     o1 11 (.mv (.t 10)),
     oF 12 (.mv (.t 0)) 11,
     oF 13 (.call (.f 126) [(.t 12), (.f 127)]) 11,
     o1 14 (.pick (.t 11) (cB true) (.t 13))])
    (.cond (.t 14) (.seq (.reg [o1 2 (.mv (cI 3))])
      (.ret)) (.skip)))
   (.seq (.seq (.reg [o1 15 (.mv (.t 0)),
      o1 16 (.lenL (.t 15)),
      o1 17 (.mv (cI 0))])
     (.block 0 (.loop (.seq (.reg [o1 18 (.bin .lss (.t 17) (.t 16))])
        (.seq (.cond (.t 18) (.skip) (.exit 0))
         (.seq (.block 1 (.seq (.reg [o1 19 (.iaddr 2 (.t 15) (.t 17)),
             o1 20 (.load (some 2) (.t 19)),
             o1 4 (.alloc 110 2 [(.string ⟨#[]⟩), (.slice none 0 0)]),
             o0 (.store 2 (.t 4) (.t 20))])
            (.seq (.reg [o1 21 (.faddr 1 (.t 4)),
              o1 22 (.load none (.t 21)),
              o1 23 (.call (.f 53) [(.t 22)]),
              o1 5 (.mv (.t 23))])
             (.seq (.reg [o1 24 (.mv (.t 5)),
               o1 25 (.bin .neq (.t 24) (cI 0))])
              (.cond (.t 25) (.seq (.reg [o1 26 (.mv (.t 5)),
                 o1 2 (.mv (.t 26))])
                (.ret)) (.skip))))))
          (.reg [o1 27 (.bin .add (.t 17) (cI 1)),
           o1 17 (.mv (.t 27))])))))))
    (.seq (.seq (.reg [o1 28 (.mv (.t 0)),
       o1 29 (.lenL (.t 28)),
       o1 30 (.mv (cI 0))])
      (.block 2 (.loop (.seq (.reg [o1 31 (.bin .lss (.t 30) (.t 29))])
         (.seq (.cond (.t 31) (.skip) (.exit 2))
          (.seq (.block 3 (.seq (.reg [o1 32 (.mv (.t 30)),
              o1 33 (.iaddr 2 (.t 28) (.t 30)),
              o1 34 (.load (some 2) (.t 33)),
              o1 7 (.alloc 110 2 [(.string ⟨#[]⟩), (.slice none 0 0)]),
              o1 6 (.mv (.t 32)),
              o0 (.store 2 (.t 7) (.t 34))])
             (.seq (.reg [o1 35 (.faddr 0 (.t 7)),
               o1 36 (.load none (.t 35)),
               o1 37 (.call (.f 108) [(.t 36)]),
               o1 38 (.un .not (.t 37)),
               o1 39 (.mv (.t 38)),
               oF 40 (.faddr 1 (.t 7)) 39,
               oF 41 (.load none (.t 40)) 39,
               oF 42 (.call (.f 128) [(.t 41), (.f 129)]) 39,
               o1 43 (.pick (.t 39) (cB true) (.t 42)),
               o1 44 (.mv (.t 43)),
               oF 45 (.mv (.t 0)) 44,
               oF 46 (.mv (.t 6)) 44,
               oF 47 (.sl 2 (.t 45) none (some (.t 46))) 44,
               oF 48 (.mkfunc 130 [(.t 7)]) 44,
               oF 49 (.call (.f 126) [(.t 47), (.t 48)]) 44,
               o1 50 (.pick (.t 44) (cB true) (.t 49))])
              (.cond (.t 50) (.seq (.reg [o1 2 (.mv (cI 1))])
                (.ret)) (.skip)))))
           (.reg [o1 51 (.bin .add (.t 30) (cI 1)),
            o1 30 (.mv (.t 51))])))))))
     (.seq (.reg [o1 2 (.mv (cI 0))])
      (.ret)))))
theorem s95_ok : lookF Try.prog 95 = some (s95, 52, [.tmp 2]) := by kernel_rfl
set_option maxHeartbeats 1000000 in
theorem hArches_ok (l : List Arch) : Fn P 95 [sl l] (intA (archErr l)) := by
  by_cases hL : 24 < l.length
  · rw [archErr_3 (.inl hL)]
    (refine fn_look s95_ok (by simp) (by intro k; simp only [go_sem, Nat.reduceEqDiff, ↓reduceIte, reduceCtorEq, Nat.reduceAdd, Nat.reduceMul, Int.reduceToNat, List.reduceReplicate, Nat.reduceLeDiff, Nat.reduceLT, Int.reduceLT, Int.reduceLE, Int.reduceEq]) fun S hS => cwp_sound _ _ _ _ ?_; simp (maxSteps := 900000) (disch := omega) only [s95, go_sem, Nat.reduceEqDiff, ↓reduceIte, reduceCtorEq, Nat.reduceAdd, Nat.reduceMul, Int.reduceToNat, List.reduceReplicate, Nat.reduceLeDiff, Nat.reduceLT, Int.reduceLT, Int.reduceLE, Int.reduceEq])
    repeat' (first | with_reducible refine inw ?_ | simp (maxSteps := 900000) (disch := omega) only [go_sem, Nat.reduceEqDiff, ↓reduceIte, reduceCtorEq, Nat.reduceAdd, Nat.reduceMul, Int.reduceToNat, List.reduceReplicate, Nat.reduceLeDiff, Nat.reduceLT, Int.reduceLT, Int.reduceLE, Int.reduceEq] | with_reducible refine pickB_f ?_ | with_reducible refine giv_intro fun _h => ?_ | with_reducible refine alt_intro ?_ fun _h => ?_ | with_reducible refine pickD_nil ?_ | (with_reducible refine brc (fun _h => ?_) fun _h => ?_) <;> first | (exfalso; omega) | simp only [decide_eq_false _h] | simp only [(_h : (_ : Bool) = _)] | simp only [decide_eq_true _h] | skip)
  have c1 := arcAny_ok l archL 127 [] (by simp) (fun a _ => arches1_ok a)
  by_cases hany : l.any archL = true
  · rw [archErr_3 (.inr hany)]
    rw [hany] at c1
    (refine fn_look s95_ok (by simp) (by intro k; simp only [go_sem, Nat.reduceEqDiff, ↓reduceIte, reduceCtorEq, Nat.reduceAdd, Nat.reduceMul, Int.reduceToNat, List.reduceReplicate, Nat.reduceLeDiff, Nat.reduceLT, Int.reduceLT, Int.reduceLE, Int.reduceEq]) fun S hS => cwp_sound _ _ _ _ ?_; simp (maxSteps := 900000) (disch := omega) only [s95, go_sem, Nat.reduceEqDiff, ↓reduceIte, reduceCtorEq, Nat.reduceAdd, Nat.reduceMul, Int.reduceToNat, List.reduceReplicate, Nat.reduceLeDiff, Nat.reduceLT, Int.reduceLT, Int.reduceLE, Int.reduceEq])
    repeat' (first | with_reducible refine inw ?_ | simp (maxSteps := 900000) (disch := omega) only [go_sem, Nat.reduceEqDiff, ↓reduceIte, reduceCtorEq, Nat.reduceAdd, Nat.reduceMul, Int.reduceToNat, List.reduceReplicate, Nat.reduceLeDiff, Nat.reduceLT, Int.reduceLT, Int.reduceLE, Int.reduceEq] | (with_reducible apply call (c1)); (focus simp (maxSteps := 900000) (disch := omega) only [go_sem, Nat.reduceEqDiff, ↓reduceIte, reduceCtorEq, Nat.reduceAdd, Nat.reduceMul, Int.reduceToNat, List.reduceReplicate, Nat.reduceLeDiff, Nat.reduceLT, Int.reduceLT, Int.reduceLE, Int.reduceEq] <;> rfl) | with_reducible refine pickB_f ?_ | with_reducible refine giv_intro fun _h => ?_ | with_reducible refine alt_intro ?_ fun _h => ?_ | with_reducible refine pickD_nil ?_ | (with_reducible refine brc (fun _h => ?_) fun _h => ?_) <;> first | (exfalso; omega) | simp only [decide_eq_false _h] | simp only [(_h : (_ : Bool) = _)] | simp only [decide_eq_true _h] | skip)
  have hany' : l.any archL = false := by simpa using hany
  rw [hany'] at c1
  have hany2 : ¬(24 < l.length ∨ l.any archL = true) := fun h => h.elim hL hany
  (refine fn_look s95_ok (by simp) (by intro k; simp only [go_sem, Nat.reduceEqDiff, ↓reduceIte, reduceCtorEq, Nat.reduceAdd, Nat.reduceMul, Int.reduceToNat, List.reduceReplicate, Nat.reduceLeDiff, Nat.reduceLT, Int.reduceLT, Int.reduceLE, Int.reduceEq]) fun S hS => cwp_sound _ _ _ _ ?_; simp (maxSteps := 900000) (disch := omega) only [s95, go_sem, Nat.reduceEqDiff, ↓reduceIte, reduceCtorEq, Nat.reduceAdd, Nat.reduceMul, Int.reduceToNat, List.reduceReplicate, Nat.reduceLeDiff, Nat.reduceLT, Int.reduceLT, Int.reduceLE, Int.reduceEq])
  repeat' (first | with_reducible refine inw ?_ | simp (maxSteps := 900000) (disch := omega) only [go_sem, Nat.reduceEqDiff, ↓reduceIte, reduceCtorEq, Nat.reduceAdd, Nat.reduceMul, Int.reduceToNat, List.reduceReplicate, Nat.reduceLeDiff, Nat.reduceLT, Int.reduceLT, Int.reduceLE, Int.reduceEq] | (with_reducible apply call (c1)); (focus simp (maxSteps := 900000) (disch := omega) only [go_sem, Nat.reduceEqDiff, ↓reduceIte, reduceCtorEq, Nat.reduceAdd, Nat.reduceMul, Int.reduceToNat, List.reduceReplicate, Nat.reduceLeDiff, Nat.reduceLT, Int.reduceLT, Int.reduceLE, Int.reduceEq] <;> rfl) | with_reducible refine pickB_f ?_ | with_reducible refine giv_intro fun _h => ?_ | with_reducible refine alt_intro ?_ fun _h => ?_ | with_reducible refine pickD_nil ?_ | (with_reducible refine brc (fun _h => ?_) fun _h => ?_) <;> first | (exfalso; omega) | simp only [decide_eq_false _h] | simp only [(_h : (_ : Bool) = _)] | simp only [decide_eq_true _h] | skip)
  (refine loopC hS [0, 15, 16] (by simp only [go_sem, Nat.reduceEqDiff, ↓reduceIte, reduceCtorEq, Nat.reduceAdd, Nat.reduceMul, Int.reduceToNat, List.reduceReplicate, Nat.reduceLeDiff, Nat.reduceLT, Int.reduceLT, Int.reduceLE, Int.reduceEq]; try rfl) (fun (i : Nat) => [(17, intA i)]) (fun (i : Nat) => []) (fun (i : Nat) => i ≤ l.length ∧ archW l = archW (l.drop i)) (fun (i : Nat) => l.length - i) (0) ?_ (by intro s; first | (simp only [List.length_cons, List.length_nil]; done) | rfl | (rcases s with ⟨_, _⟩; rfl) | (rcases s with ⟨_, _, _⟩; rfl) | (rcases s with ⟨_, _, _, _⟩; rfl) | (rcases s with ⟨_, _, _, _, _⟩; rfl)) ?_)
  · simp (maxSteps := 900000) (disch := omega) only [go_sem, Nat.reduceEqDiff, ↓reduceIte, reduceCtorEq, Nat.reduceAdd, Nat.reduceMul, Int.reduceToNat, List.reduceReplicate, Nat.reduceLeDiff, Nat.reduceLT, Int.reduceLT, Int.reduceLE, Int.reduceEq]
    exact Nat.zero_le _
  rintro i ⟨hi, hI⟩
  replace hi : i ≤ l.length := hi
  replace hI : archW l = archW (l.drop i) := hI
  by_cases hil : i < l.length
  · rw [archW_step hil] at hI
    have c2 := words_ok (nth l i).2
    have z2 : zcells [Value.string ⟨#[]⟩, Value.slice none 0 0] 2 = [strA ⟨#[]⟩, .sc (.slice none 0 0)] := rfl
    have eC : ((cellsL l).drop (i * 2)).take 2 = [strA (nth l i).1, sl (nth l i).2] := by rw [cellsL_drop, nth_drop hil]; rfl
    by_cases hw : wordsErr (nth l i).2 ≠ 0
    · rw [if_pos hw] at hI
      rw [archErr_w hany2 (by rw [hI]; exact hw), hI]
      repeat' (first | with_reducible refine inw ?_ | simp (maxSteps := 900000) (disch := omega) only [go_sem, Nat.reduceEqDiff, ↓reduceIte, reduceCtorEq, Nat.reduceAdd, Nat.reduceMul, Int.reduceToNat, List.reduceReplicate, Nat.reduceLeDiff, Nat.reduceLT, Int.reduceLT, Int.reduceLE, Int.reduceEq, eC] | (with_reducible apply call (c2)); (focus simp (maxSteps := 900000) (disch := omega) only [go_sem, Nat.reduceEqDiff, ↓reduceIte, reduceCtorEq, Nat.reduceAdd, Nat.reduceMul, Int.reduceToNat, List.reduceReplicate, Nat.reduceLeDiff, Nat.reduceLT, Int.reduceLT, Int.reduceLE, Int.reduceEq, eC] <;> rfl) | with_reducible refine pickB_f ?_ | with_reducible refine giv_intro fun _h => ?_ | with_reducible refine alt_intro ?_ fun _h => ?_ | with_reducible refine pickD_nil ?_ | (with_reducible refine brc (fun _h => ?_) fun _h => ?_) <;> first | (exfalso; omega) | simp only [decide_eq_false _h] | simp only [(_h : (_ : Bool) = _)] | simp only [decide_eq_true _h] | skip)
    · rw [if_neg hw] at hI
      repeat' (first | with_reducible refine inw ?_ | simp (maxSteps := 900000) (disch := omega) only [go_sem, Nat.reduceEqDiff, ↓reduceIte, reduceCtorEq, Nat.reduceAdd, Nat.reduceMul, Int.reduceToNat, List.reduceReplicate, Nat.reduceLeDiff, Nat.reduceLT, Int.reduceLT, Int.reduceLE, Int.reduceEq, eC] | (with_reducible apply call (c2)); (focus simp (maxSteps := 900000) (disch := omega) only [go_sem, Nat.reduceEqDiff, ↓reduceIte, reduceCtorEq, Nat.reduceAdd, Nat.reduceMul, Int.reduceToNat, List.reduceReplicate, Nat.reduceLeDiff, Nat.reduceLT, Int.reduceLT, Int.reduceLE, Int.reduceEq, eC] <;> rfl) | with_reducible refine pickB_f ?_ | with_reducible refine giv_intro fun _h => ?_ | with_reducible refine alt_intro ?_ fun _h => ?_ | with_reducible refine pickD_nil ?_ | (with_reducible refine brc (fun _h => ?_) fun _h => ?_) <;> first | (exfalso; omega) | simp only [decide_eq_false _h] | simp only [(_h : (_ : Bool) = _)] | simp only [decide_eq_true _h] | skip)
      exact ⟨i + 1, ⟨by omega, by omega, hI⟩, by omega⟩
  rw [drop_end (by omega), archW] at hI
  repeat' (first | with_reducible refine inw ?_ | simp (maxSteps := 900000) (disch := omega) only [go_sem, Nat.reduceEqDiff, ↓reduceIte, reduceCtorEq, Nat.reduceAdd, Nat.reduceMul, Int.reduceToNat, List.reduceReplicate, Nat.reduceLeDiff, Nat.reduceLT, Int.reduceLT, Int.reduceLE, Int.reduceEq] | with_reducible refine pickB_f ?_ | with_reducible refine giv_intro fun _h => ?_ | with_reducible refine alt_intro ?_ fun _h => ?_ | with_reducible refine pickD_nil ?_ | (with_reducible refine brc (fun _h => ?_) fun _h => ?_) <;> first | (exfalso; omega) | simp only [decide_eq_false _h] | simp only [(_h : (_ : Bool) = _)] | simp only [decide_eq_true _h] | skip)
  (refine loopC hS [0, 28, 29] (by simp only [go_sem, Nat.reduceEqDiff, ↓reduceIte, reduceCtorEq, Nat.reduceAdd, Nat.reduceMul, Int.reduceToNat, List.reduceReplicate, Nat.reduceLeDiff, Nat.reduceLT, Int.reduceLT, Int.reduceLE, Int.reduceEq]; try rfl) (fun (i : Nat) => [(30, intA i)]) (fun (i : Nat) => []) (fun (i : Nat) => i ≤ l.length ∧ ∀ j, j < i → badA l j = false) (fun (i : Nat) => l.length - i) (0) ?_ (by intro s; first | (simp only [List.length_cons, List.length_nil]; done) | rfl | (rcases s with ⟨_, _⟩; rfl) | (rcases s with ⟨_, _, _⟩; rfl) | (rcases s with ⟨_, _, _, _⟩; rfl) | (rcases s with ⟨_, _, _, _, _⟩; rfl)) ?_)
  · simp (maxSteps := 900000) (disch := omega) only [go_sem, Nat.reduceEqDiff, ↓reduceIte, reduceCtorEq, Nat.reduceAdd, Nat.reduceMul, Int.reduceToNat, List.reduceReplicate, Nat.reduceLeDiff, Nat.reduceLT, Int.reduceLT, Int.reduceLE, Int.reduceEq]
    exact ⟨Nat.zero_le _, fun j hj => absurd hj (Nat.not_lt_zero _)⟩
  rintro i ⟨hi, hB⟩
  replace hi : i ≤ l.length := hi
  replace hB : ∀ j, j < i → badA l j = false := hB
  by_cases hil : i < l.length
  · have c2 := hIsSymbol_ok (nth l i).1
    have c3 := wrdAny_ok (nth l i).2 (fun w => decide (1 < w.length)) 129 [] (by simp) (fun w _ => arches2_ok w)
    have c4 := arcAny_ok (l.take i) (fun b => decide (b.1 = (nth l i).1)) 130 [.rop (Enc.cells (nth l i))] (fun c hc => by rw [List.mem_singleton] at hc; rw [hc]; exact rop_still fun x hx => Enc.still _ x hx) (fun b _ => arches3_ok b (nth l i))
    have eC : ((cellsL l).drop (i * 2)).take 2 = [strA (nth l i).1, sl (nth l i).2] := by rw [cellsL_drop, nth_drop hil]; rfl
    have eB : badA l i = (!goodS (nth l i).1 || (nth l i).2.any (fun w => decide (1 < w.length)) || (l.take i).any fun b => decide (b.1 = (nth l i).1)) := rfl
    repeat' (first | with_reducible refine inw ?_ | simp (maxSteps := 900000) (disch := omega) only [go_sem, Nat.reduceEqDiff, ↓reduceIte, reduceCtorEq, Nat.reduceAdd, Nat.reduceMul, Int.reduceToNat, List.reduceReplicate, Nat.reduceLeDiff, Nat.reduceLT, Int.reduceLT, Int.reduceLE, Int.reduceEq, eC] | (with_reducible apply call (c2)); (focus simp (maxSteps := 900000) (disch := omega) only [go_sem, Nat.reduceEqDiff, ↓reduceIte, reduceCtorEq, Nat.reduceAdd, Nat.reduceMul, Int.reduceToNat, List.reduceReplicate, Nat.reduceLeDiff, Nat.reduceLT, Int.reduceLT, Int.reduceLE, Int.reduceEq, eC] <;> rfl) | (with_reducible apply call (c3)); (focus simp (maxSteps := 900000) (disch := omega) only [go_sem, Nat.reduceEqDiff, ↓reduceIte, reduceCtorEq, Nat.reduceAdd, Nat.reduceMul, Int.reduceToNat, List.reduceReplicate, Nat.reduceLeDiff, Nat.reduceLT, Int.reduceLT, Int.reduceLE, Int.reduceEq, eC] <;> rfl) | (with_reducible apply call_lend (c4)); (focus simp (maxSteps := 900000) (disch := omega) only [go_sem, Nat.reduceEqDiff, ↓reduceIte, reduceCtorEq, Nat.reduceAdd, Nat.reduceMul, Int.reduceToNat, List.reduceReplicate, Nat.reduceLeDiff, Nat.reduceLT, Int.reduceLT, Int.reduceLE, Int.reduceEq, eC] <;> rfl); (focus rfl) | with_reducible refine pickB_f ?_ | with_reducible refine giv_intro fun _h => ?_ | with_reducible refine alt_intro ?_ fun _h => ?_ | with_reducible refine pickD_nil ?_ | (with_reducible refine brc (fun _h => ?_) fun _h => ?_) <;> first | (exfalso; omega) | simp only [decide_eq_false _h] | simp only [(_h : (_ : Bool) = _)] | simp only [decide_eq_true _h] | skip)
    · exact (archErr_1 hany2 hI hil (by rw [eB, _h]; rfl)).symm
    · exact (archErr_1 hany2 hI hil (by rw [eB, _h, Bool.or_true]; rfl)).symm
    · exact (archErr_1 hany2 hI hil (by rw [eB, _h, Bool.or_true])).symm
    · refine ⟨i + 1, ⟨by omega, by omega, fun j hj => ?_⟩, by omega⟩
      rcases Nat.lt_or_ge j i with h | h
      · exact hB j h
      · obtain rfl : j = i := by omega
        rw [eB, show goodS (nth l j).1 = true by assumption, show (nth l j).2.any (fun w => decide (1 < w.length)) = false by assumption, show (l.take j).any (fun b => decide (b.1 = (nth l j).1)) = false by assumption]
        rfl
  · rw [archErr_0 hany2 hI fun j hj => hB j (by omega)]
    repeat' (first | with_reducible refine inw ?_ | simp (maxSteps := 900000) (disch := omega) only [go_sem, Nat.reduceEqDiff, ↓reduceIte, reduceCtorEq, Nat.reduceAdd, Nat.reduceMul, Int.reduceToNat, List.reduceReplicate, Nat.reduceLeDiff, Nat.reduceLT, Int.reduceLT, Int.reduceLE, Int.reduceEq] | with_reducible refine pickB_f ?_ | with_reducible refine giv_intro fun _h => ?_ | with_reducible refine alt_intro ?_ fun _h => ?_ | with_reducible refine pickD_nil ?_ | (with_reducible refine brc (fun _h => ?_) fun _h => ?_) <;> first | (exfalso; omega) | simp only [decide_eq_false _h] | simp only [(_h : (_ : Bool) = _)] | simp only [decide_eq_true _h] | skip)
/-- ablaut/harm.heads: 1 parameters, 0 captured -/
def s100 : SC := .seq (.reg [o1 2 (.mv (.c (.slice none 0 0)))])
  (.seq (.reg [o1 3 (.mv (.c (.slice none 0 0)))])
   (.seq (.seq (.reg [o1 6 (.mv (.t 0)),
      o1 7 (.lenL (.t 6)),
      o1 8 (.mv (cI 0))])
     (.block 0 (.loop (.seq (.reg [o1 9 (.bin .lss (.t 8) (.t 7))])
        (.seq (.cond (.t 9) (.skip) (.exit 0))
         (.seq (.block 1 (.seq (.reg [o1 10 (.iaddr 2 (.t 6) (.t 8)),
             o1 11 (.load (some 2) (.t 10)),
             o1 5 (.alloc 110 2 [(.string ⟨#[]⟩), (.slice none 0 0)]),
             o0 (.store 2 (.t 5) (.t 11))])
            (.reg [o1 12 (.mv (.t 3)),
             o1 13 (.faddr 0 (.t 5)),
             o1 14 (.load none (.t 13)),
             o1 15 (.buildSl 9 1 1 [(.string ⟨#[]⟩)] [(0, 1, (.t 14))]),
             o1 16 (.app 9 1 16 (.t 12) (.t 15)),
             o1 3 (.mv (.t 16))])))
          (.reg [o1 17 (.bin .add (.t 8) (cI 1)),
           o1 8 (.mv (.t 17))])))))))
    (.seq (.reg [o1 18 (.mv (.t 3)),
      o1 2 (.mv (.t 18))])
     (.ret))))
theorem s100_ok : lookF Try.prog 100 = some (s100, 19, [.tmp 2]) := by kernel_rfl
theorem heads_ok (l : List Arch) (hl : l.length ≤ 1000) : Fn P 100 [sl l] (sl (l.map (·.1))) := by
  (refine fn_look s100_ok (by simp) (by intro k; simp only [go_sem, Nat.reduceEqDiff, ↓reduceIte, reduceCtorEq, Nat.reduceAdd, Nat.reduceMul, Int.reduceToNat, List.reduceReplicate, Nat.reduceLeDiff, Nat.reduceLT, Int.reduceLT, Int.reduceLE, Int.reduceEq]) fun S hS => cwp_sound _ _ _ _ ?_; simp (maxSteps := 900000) (disch := omega) only [s100, go_sem, Nat.reduceEqDiff, ↓reduceIte, reduceCtorEq, Nat.reduceAdd, Nat.reduceMul, Int.reduceToNat, List.reduceReplicate, Nat.reduceLeDiff, Nat.reduceLT, Int.reduceLT, Int.reduceLE, Int.reduceEq])
  repeat' (first | with_reducible refine inw ?_ | simp (maxSteps := 900000) (disch := omega) only [go_sem, Nat.reduceEqDiff, ↓reduceIte, reduceCtorEq, Nat.reduceAdd, Nat.reduceMul, Int.reduceToNat, List.reduceReplicate, Nat.reduceLeDiff, Nat.reduceLT, Int.reduceLT, Int.reduceLE, Int.reduceEq] | with_reducible refine pickB_f ?_ | with_reducible refine giv_intro fun _h => ?_ | with_reducible refine alt_intro ?_ fun _h => ?_ | with_reducible refine pickD_nil ?_ | (with_reducible refine brc (fun _h => ?_) fun _h => ?_) <;> first | (exfalso; omega) | simp only [decide_eq_false _h] | simp only [(_h : (_ : Bool) = _)] | simp only [decide_eq_true _h] | skip)
  refine nil_row 3 9 1 (by simp (maxSteps := 900000) (disch := omega) only [go_sem, Nat.reduceEqDiff, ↓reduceIte, reduceCtorEq, Nat.reduceAdd, Nat.reduceMul, Int.reduceToNat, List.reduceReplicate, Nat.reduceLeDiff, Nat.reduceLT, Int.reduceLT, Int.reduceLE, Int.reduceEq]) ?_
  (refine loopC hS [6, 7] (by simp only [go_sem, Nat.reduceEqDiff, ↓reduceIte, reduceCtorEq, Nat.reduceAdd, Nat.reduceMul, Int.reduceToNat, List.reduceReplicate, Nat.reduceLeDiff, Nat.reduceLT, Int.reduceLT, Int.reduceLE, Int.reduceEq]; try rfl) (fun (i : Nat) => [(3, own S 0 ((l.take i).map (·.1))), (8, intA i)]) (fun (i : Nat) => [rowO 9 ((l.take i).map (·.1))]) (fun (i : Nat) => i ≤ l.length) (fun (i : Nat) => l.length - i) (0) ?_ (by intro s; first | (simp only [List.length_cons, List.length_nil]; done) | rfl | (rcases s with ⟨_, _⟩; rfl) | (rcases s with ⟨_, _, _⟩; rfl) | (rcases s with ⟨_, _, _, _⟩; rfl) | (rcases s with ⟨_, _, _, _, _⟩; rfl)) ?_)
  · simp (maxSteps := 900000) (disch := omega) only [go_sem, Nat.reduceEqDiff, ↓reduceIte, reduceCtorEq, Nat.reduceAdd, Nat.reduceMul, Int.reduceToNat, List.reduceReplicate, Nat.reduceLeDiff, Nat.reduceLT, Int.reduceLT, Int.reduceLE, Int.reduceEq]
    exact Nat.zero_le _
  rintro i hi
  replace hi : i ≤ l.length := hi
  have hlm : ((l.take i).map (·.1)).length = i := by rw [List.length_map, List.length_take]; omega
  by_cases hil : i < l.length
  · have eC : ((cellsL l).drop (i * 2)).take 2 = [strA (nth l i).1, sl (nth l i).2] := by rw [cellsL_drop, nth_drop hil]; rfl
    have hst : (l.take (i + 1)).map (·.1) = (l.take i).map (·.1) ++ [(nth l i).1] := by rw [List.take_add_one, nth_get? hil]; simp
    have hlm2 : (l.take (i + 1)).length = i + 1 := by rw [List.length_take]; omega
    repeat' (first | with_reducible refine inw ?_ | simp (maxSteps := 900000) (disch := omega) only [go_sem, Nat.reduceEqDiff, ↓reduceIte, reduceCtorEq, Nat.reduceAdd, Nat.reduceMul, Int.reduceToNat, List.reduceReplicate, Nat.reduceLeDiff, Nat.reduceLT, Int.reduceLT, Int.reduceLE, Int.reduceEq, eC, hlm] | with_reducible refine pickB_f ?_ | with_reducible refine giv_intro fun _h => ?_ | with_reducible refine alt_intro ?_ fun _h => ?_ | with_reducible refine pickD_nil ?_ | (with_reducible refine brc (fun _h => ?_) fun _h => ?_) <;> first | (exfalso; omega) | simp only [decide_eq_false _h] | simp only [(_h : (_ : Bool) = _)] | simp only [decide_eq_true _h] | skip)
    exact ⟨i + 1, ⟨by omega, by omega⟩, ⟨⟨by omega, by omega⟩, by omega⟩, by rw [hst]⟩
  · rw [List.take_of_length_le (by omega)]
    repeat' (first | with_reducible refine inw ?_ | simp (maxSteps := 900000) (disch := omega) only [go_sem, Nat.reduceEqDiff, ↓reduceIte, reduceCtorEq, Nat.reduceAdd, Nat.reduceMul, Int.reduceToNat, List.reduceReplicate, Nat.reduceLeDiff, Nat.reduceLT, Int.reduceLT, Int.reduceLE, Int.reduceEq] | with_reducible refine pickB_f ?_ | with_reducible refine giv_intro fun _h => ?_ | with_reducible refine alt_intro ?_ fun _h => ?_ | with_reducible refine pickD_nil ?_ | (with_reducible refine brc (fun _h => ?_) fun _h => ?_) <;> first | (exfalso; omega) | simp only [decide_eq_false _h] | simp only [(_h : (_ : Bool) = _)] | simp only [decide_eq_true _h] | skip)
    exact seenRow_t ⟨by rw [List.length_map], by rw [List.length_map, Nat.mul_one]⟩
/-- (*ablaut/harm.sung).becomes$1: 1 parameters, 1 captured -/
def s132 : SC := .seq (.reg [o1 2 (.box 110 2 (.t 0)),
   o1 3 (.mv (cB false))])
  (.seq (.reg [o1 4 (.faddr 0 (.t 2)),
    o1 5 (.load none (.t 4)),
    o1 6 (.load none (.t 1)),
    o1 7 (.bin .eql (.t 5) (.t 6)),
    o1 3 (.mv (.t 7))])
   (.ret))
theorem s132_ok : lookF Try.prog 132 = some (s132, 8, [.tmp 3]) := by kernel_rfl
theorem bec1_ok (a : Arch) (x : Str) : Fn P 132 [valA a, .rop [strA x]] (boolA (decide (a.1 = x))) := by
  (refine fn_look s132_ok (by simp) (by intro k; simp only [go_sem, Nat.reduceEqDiff, ↓reduceIte, reduceCtorEq, Nat.reduceAdd, Nat.reduceMul, Int.reduceToNat, List.reduceReplicate, Nat.reduceLeDiff, Nat.reduceLT, Int.reduceLT, Int.reduceLE, Int.reduceEq]) fun S hS => cwp_sound _ _ _ _ ?_; simp (maxSteps := 900000) (disch := omega) only [s132, go_sem, Nat.reduceEqDiff, ↓reduceIte, reduceCtorEq, Nat.reduceAdd, Nat.reduceMul, Int.reduceToNat, List.reduceReplicate, Nat.reduceLeDiff, Nat.reduceLT, Int.reduceLT, Int.reduceLE, Int.reduceEq])
  repeat' (first | with_reducible refine inw ?_ | simp (maxSteps := 900000) (disch := omega) only [go_sem, Nat.reduceEqDiff, ↓reduceIte, reduceCtorEq, Nat.reduceAdd, Nat.reduceMul, Int.reduceToNat, List.reduceReplicate, Nat.reduceLeDiff, Nat.reduceLT, Int.reduceLT, Int.reduceLE, Int.reduceEq] | with_reducible refine pickB_f ?_ | with_reducible refine giv_intro fun _h => ?_ | with_reducible refine alt_intro ?_ fun _h => ?_ | with_reducible refine pickD_nil ?_ | (with_reducible refine brc (fun _h => ?_) fun _h => ?_) <;> first | (exfalso; omega) | simp only [decide_eq_false _h] | simp only [(_h : (_ : Bool) = _)] | simp only [decide_eq_true _h] | skip)
abbrev sungA (m : List (Str × Sound)) (c : Nat) : AV := .rop [romA m, intA c]
/-- (*ablaut/harm.sung).becomes: 3 parameters, 0 captured -/
def s96 : SC := .seq (.reg [o1 5 (.box 9 1 (.t 2)),
   o1 6 (.mv (.c (.string ⟨#[]⟩)))])
  (.seq (.reg [o1 8 (.mv (.t 1)),
    o1 9 (.mkfunc 132 [(.t 5)]),
    o1 10 (.call (.f 131) [(.t 8), (.t 9)]),
    o1 7 (.mv (.t 10))])
   (.seq (.seq (.regD [o1 11 (.mv (.t 7)),
      o1 12 (.bin .lss (.t 11) (cI 0)),
      o1 13 (.mv (.t 12)),
      oF 14 (.mv (.t 0)) 13,
      oF 15 (.nilck (.t 14)) 13,
      oF 16 (.faddr 1 (.t 15)) 13,
      oF 17 (.load none (.t 16)) 13,
      oF 18 (.mv (.t 1)) 13,
      oF 19 (.mv (.t 7)) 13,
      oF 20 (.iaddr 2 (.t 18) (.t 19)) 13,
      oF 21 (.faddr 1 (.t 20)) 13,
      oF 22 (.load none (.t 21)) 13,
      oF 23 (.lenL (.t 22)) 13,
      oF 24 (.bin .geq (.t 17) (.t 23)) 13,
      o1 25 (.pick (.t 13) (cB true) (.t 24)),
      o1 26 (.mv (.t 25)),
      oF 27 (.mv (.t 1)) 26,
      oF 28 (.mv (.t 7)) 26,
      oF 29 (.iaddr 2 (.t 27) (.t 28)) 26,
      oF 30 (.faddr 1 (.t 29)) 26,
      oF 31 (.load none (.t 30)) 26,
      oF 32 (.mv (.t 0)) 26,
      oF 33 (.nilck (.t 32)) 26,
      oF 34 (.faddr 1 (.t 33)) 26,
      oF 35 (.load none (.t 34)) 26,
      oF 36 (.iaddr 1 (.t 31) (.t 35)) 26,
      oF 37 (.load none (.t 36)) 26,
      oF 38 (.lenL (.t 37)) 26,
      oF 39 (.bin .eql (.t 38) (cI 0)) 26,
      o1 40 (.pick (.t 26) (cB true) (.t 39))])
     (.cond (.t 40) (.seq (.reg [o1 41 (.load none (.t 5)),
        o1 6 (.mv (.t 41))])
       (.ret)) (.skip)))
    (.seq (.regD [o1 42 (.mv (.t 1)),
      o1 43 (.mv (.t 7)),
      o1 44 (.iaddr 2 (.t 42) (.t 43)),
      o1 45 (.faddr 1 (.t 44)),
      o1 46 (.load none (.t 45)),
      o1 47 (.mv (.t 0)),
      o1 48 (.nilck (.t 47)),
      o1 49 (.faddr 1 (.t 48)),
      o1 50 (.load none (.t 49)),
      o1 51 (.iaddr 1 (.t 46) (.t 50)),
      o1 52 (.load none (.t 51)),
      o1 53 (.iaddr 1 (.t 52) (cI 0)),
      o1 54 (.load none (.t 53)),
      o1 6 (.mv (.t 54))])
     (.ret))))
theorem s96_ok : lookF Try.prog 96 = some (s96, 55, [.tmp 6]) := by kernel_rfl
theorem becomes_ok (m : List (Str × Sound)) (l : List Arch) (x : Str) (c : Nat) (hc : c ≤ 1000) (hs : ∀ a ∈ l, ∀ w ∈ a.2, w.length ≤ 1) : Fn P 96 [sungA m c, sl l, strA x] (strA (wrT l x c)) := by
  have c1 := arcIdx_ok l (fun a => decide (a.1 = x)) 132 [.rop [strA x]] (fun c hc => by rw [List.mem_singleton] at hc; rw [hc]; exact rop_still fun y hy => by rw [List.mem_singleton] at hy; rw [hy]; exact ⟨fun k => by simp only [AV.bel], fun D S d => by cases d <;> rfl, rfl⟩) (fun a _ => bec1_ok a x)
  cases hf : l.findIdx? (fun a => decide (a.1 = x)) with
  | none =>
    rw [hf] at c1
    have e : wrT l x c = x := by
      have h1 := List.findIdx?_eq_none_iff.1 hf
      have h2 : l.find? (fun a => decide (a.1 = x)) = none := List.find?_eq_none.2 fun a ha => by rw [h1 a ha]; decide
      rw [wrT, h2]
    rw [e]
    (refine fn_look s96_ok (by simp) (by intro k; simp only [go_sem, Nat.reduceEqDiff, ↓reduceIte, reduceCtorEq, Nat.reduceAdd, Nat.reduceMul, Int.reduceToNat, List.reduceReplicate, Nat.reduceLeDiff, Nat.reduceLT, Int.reduceLT, Int.reduceLE, Int.reduceEq]) fun S hS => cwp_sound _ _ _ _ ?_; simp (maxSteps := 900000) (disch := omega) only [s96, go_sem, Nat.reduceEqDiff, ↓reduceIte, reduceCtorEq, Nat.reduceAdd, Nat.reduceMul, Int.reduceToNat, List.reduceReplicate, Nat.reduceLeDiff, Nat.reduceLT, Int.reduceLT, Int.reduceLE, Int.reduceEq])
    repeat' (first | with_reducible refine inw ?_ | simp (maxSteps := 900000) (disch := omega) only [go_sem, Nat.reduceEqDiff, ↓reduceIte, reduceCtorEq, Nat.reduceAdd, Nat.reduceMul, Int.reduceToNat, List.reduceReplicate, Nat.reduceLeDiff, Nat.reduceLT, Int.reduceLT, Int.reduceLE, Int.reduceEq] | (with_reducible apply call_lend (c1)); (focus simp (maxSteps := 900000) (disch := omega) only [go_sem, Nat.reduceEqDiff, ↓reduceIte, reduceCtorEq, Nat.reduceAdd, Nat.reduceMul, Int.reduceToNat, List.reduceReplicate, Nat.reduceLeDiff, Nat.reduceLT, Int.reduceLT, Int.reduceLE, Int.reduceEq] <;> rfl); (focus rfl) | with_reducible refine pickB_f ?_ | with_reducible refine giv_intro fun _h => ?_ | with_reducible refine alt_intro ?_ fun _h => ?_ | with_reducible refine pickD_nil ?_ | (with_reducible refine brc (fun _h => ?_) fun _h => ?_) <;> first | (exfalso; omega) | simp only [decide_eq_false _h] | simp only [(_h : (_ : Bool) = _)] | simp only [decide_eq_true _h] | skip)
    all_goals skip
  | some k =>
    rw [hf] at c1
    obtain ⟨hk, hk2, hk3⟩ := List.findIdx?_eq_some_iff_getElem.1 hf
    have e : wrT l x c = asAt (nth l k) c x := by
      have h2 : l.find? (fun a => decide (a.1 = x)) = some l[k] := List.find?_eq_some_iff_getElem.2 ⟨hk2, k, hk, rfl, fun j hj => by simpa using hk3 j hj⟩
      rw [wrT, h2, nth_eq hk]
    rw [e]
    by_cases hcl : c < (nth l k).2.length
    · by_cases h1 : (nth (nth l k).2 c).length = 0
      · rw [asAt_no (by rintro ⟨_, h⟩; omega) (hs _ (nth_mem hk))]
        (refine fn_look s96_ok (by simp) (by intro k; simp only [go_sem, Nat.reduceEqDiff, ↓reduceIte, reduceCtorEq, Nat.reduceAdd, Nat.reduceMul, Int.reduceToNat, List.reduceReplicate, Nat.reduceLeDiff, Nat.reduceLT, Int.reduceLT, Int.reduceLE, Int.reduceEq]) fun S hS => cwp_sound _ _ _ _ ?_; simp (maxSteps := 900000) (disch := omega) only [s96, go_sem, Nat.reduceEqDiff, ↓reduceIte, reduceCtorEq, Nat.reduceAdd, Nat.reduceMul, Int.reduceToNat, List.reduceReplicate, Nat.reduceLeDiff, Nat.reduceLT, Int.reduceLT, Int.reduceLE, Int.reduceEq])
        repeat' (first | with_reducible refine inw ?_ | simp (maxSteps := 900000) (disch := omega) only [go_sem, Nat.reduceEqDiff, ↓reduceIte, reduceCtorEq, Nat.reduceAdd, Nat.reduceMul, Int.reduceToNat, List.reduceReplicate, Nat.reduceLeDiff, Nat.reduceLT, Int.reduceLT, Int.reduceLE, Int.reduceEq] | (with_reducible apply call_lend (c1)); (focus simp (maxSteps := 900000) (disch := omega) only [go_sem, Nat.reduceEqDiff, ↓reduceIte, reduceCtorEq, Nat.reduceAdd, Nat.reduceMul, Int.reduceToNat, List.reduceReplicate, Nat.reduceLeDiff, Nat.reduceLT, Int.reduceLT, Int.reduceLE, Int.reduceEq] <;> rfl); (focus rfl) | with_reducible refine pickB_f ?_ | with_reducible refine giv_intro fun _h => ?_ | with_reducible refine alt_intro ?_ fun _h => ?_ | with_reducible refine pickD_nil ?_ | (with_reducible refine brc (fun _h => ?_) fun _h => ?_) <;> first | (exfalso; omega) | simp only [decide_eq_false _h] | simp only [(_h : (_ : Bool) = _)] | simp only [decide_eq_true _h] | skip)
        all_goals skip
      · have h2 := hs _ (nth_mem hk) _ (nth_mem hcl)
        rw [asAt_lt hcl (by omega)]
        have hz : (cellsL (nth (nth l k).2 c)).head? = some (strA (nth (nth (nth l k).2 c) 0)) := by
          generalize nth (nth l k).2 c = w at *
          cases w with
          | nil => simp at h1
          | cons y w => rfl
        (refine fn_look s96_ok (by simp) (by intro k; simp only [go_sem, Nat.reduceEqDiff, ↓reduceIte, reduceCtorEq, Nat.reduceAdd, Nat.reduceMul, Int.reduceToNat, List.reduceReplicate, Nat.reduceLeDiff, Nat.reduceLT, Int.reduceLT, Int.reduceLE, Int.reduceEq]) fun S hS => cwp_sound _ _ _ _ ?_; simp (maxSteps := 900000) (disch := omega) only [s96, go_sem, Nat.reduceEqDiff, ↓reduceIte, reduceCtorEq, Nat.reduceAdd, Nat.reduceMul, Int.reduceToNat, List.reduceReplicate, Nat.reduceLeDiff, Nat.reduceLT, Int.reduceLT, Int.reduceLE, Int.reduceEq])
        repeat' (first | with_reducible refine inw ?_ | simp (maxSteps := 900000) (disch := omega) only [go_sem, Nat.reduceEqDiff, ↓reduceIte, reduceCtorEq, Nat.reduceAdd, Nat.reduceMul, Int.reduceToNat, List.reduceReplicate, Nat.reduceLeDiff, Nat.reduceLT, Int.reduceLT, Int.reduceLE, Int.reduceEq, hz] | (with_reducible apply call_lend (c1)); (focus simp (maxSteps := 900000) (disch := omega) only [go_sem, Nat.reduceEqDiff, ↓reduceIte, reduceCtorEq, Nat.reduceAdd, Nat.reduceMul, Int.reduceToNat, List.reduceReplicate, Nat.reduceLeDiff, Nat.reduceLT, Int.reduceLT, Int.reduceLE, Int.reduceEq, hz] <;> rfl); (focus rfl) | with_reducible refine pickB_f ?_ | with_reducible refine giv_intro fun _h => ?_ | with_reducible refine alt_intro ?_ fun _h => ?_ | with_reducible refine pickD_nil ?_ | (with_reducible refine brc (fun _h => ?_) fun _h => ?_) <;> first | (exfalso; omega) | simp only [decide_eq_false _h] | simp only [(_h : (_ : Bool) = _)] | simp only [decide_eq_true _h] | skip)
        all_goals skip
    · rw [asAt_no (by rintro ⟨h, _⟩; omega) (hs _ (nth_mem hk))]
      (refine fn_look s96_ok (by simp) (by intro k; simp only [go_sem, Nat.reduceEqDiff, ↓reduceIte, reduceCtorEq, Nat.reduceAdd, Nat.reduceMul, Int.reduceToNat, List.reduceReplicate, Nat.reduceLeDiff, Nat.reduceLT, Int.reduceLT, Int.reduceLE, Int.reduceEq]) fun S hS => cwp_sound _ _ _ _ ?_; simp (maxSteps := 900000) (disch := omega) only [s96, go_sem, Nat.reduceEqDiff, ↓reduceIte, reduceCtorEq, Nat.reduceAdd, Nat.reduceMul, Int.reduceToNat, List.reduceReplicate, Nat.reduceLeDiff, Nat.reduceLT, Int.reduceLT, Int.reduceLE, Int.reduceEq])
      repeat' (first | with_reducible refine inw ?_ | simp (maxSteps := 900000) (disch := omega) only [go_sem, Nat.reduceEqDiff, ↓reduceIte, reduceCtorEq, Nat.reduceAdd, Nat.reduceMul, Int.reduceToNat, List.reduceReplicate, Nat.reduceLeDiff, Nat.reduceLT, Int.reduceLT, Int.reduceLE, Int.reduceEq] | (with_reducible apply call_lend (c1)); (focus simp (maxSteps := 900000) (disch := omega) only [go_sem, Nat.reduceEqDiff, ↓reduceIte, reduceCtorEq, Nat.reduceAdd, Nat.reduceMul, Int.reduceToNat, List.reduceReplicate, Nat.reduceLeDiff, Nat.reduceLT, Int.reduceLT, Int.reduceLE, Int.reduceEq] <;> rfl); (focus rfl) | with_reducible refine pickB_f ?_ | with_reducible refine giv_intro fun _h => ?_ | with_reducible refine alt_intro ?_ fun _h => ?_ | with_reducible refine pickD_nil ?_ | (with_reducible refine brc (fun _h => ?_) fun _h => ?_) <;> first | (exfalso; omega) | simp only [decide_eq_false _h] | simp only [(_h : (_ : Bool) = _)] | simp only [decide_eq_true _h] | skip)
      all_goals skip
end Go.Proofs.Ytpfoflhhbkjngaa.Ev

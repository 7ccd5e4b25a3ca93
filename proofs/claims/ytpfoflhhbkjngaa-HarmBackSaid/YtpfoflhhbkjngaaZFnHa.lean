/- Sounds: which there are, and what a symbol is by them. -/
import Derived.Test.YtpfoflhhbkjngaaZFnB
set_option linter.unusedVariables false
set_option linter.unusedSimpArgs false
namespace Go.Proofs.Ytpfoflhhbkjngaa.Ev
open Go Go.Proofs

abbrev Sound := Str × Int × Bool × Int
theorem findIdx_anyG {α : Type} {l : List α} {p : α → Bool} : decide (0 ≤ (match l.findIdx? p with | some i => (i : Int) | none => -1)) = l.any p := by
  cases h : l.findIdx? p with
  | none => have := List.findIdx?_eq_none_iff.1 h; simp; simpa using this
  | some i =>
    obtain ⟨h1, h2, _⟩ := List.findIdx?_eq_some_iff_getElem.1 h
    have : l.any p = true := List.any_eq_true.2 ⟨l[i], List.getElem_mem h1, h2⟩
    rw [this]; simp
/-- slices.IndexFunc[[]ablaut/api.Sound,ablaut/api.Sound]: 2 parameters, 0 captured -/
def s137 : SC := .seq (.reg [o1 4 (.mv (cI 0))])
  (.seq (.seq (.reg [o1 6 (.mv (.t 0)),
     o1 7 (.lenL (.t 6)),
     o1 8 (.mv (cI 0))])
    (.block 0 (.loop (.seq (.reg [o1 9 (.bin .lss (.t 8) (.t 7))])
       (.seq (.cond (.t 9) (.skip) (.exit 0))
        (.seq (.block 1 (.seq (.reg [o1 10 (.mv (.t 8)),
            o1 5 (.mv (.t 10))])
           (.seq (.reg [o1 11 (.mv (.t 1)),
             o1 12 (.mv (.t 0)),
             o1 13 (.mv (.t 5)),
             o1 14 (.iaddr 4 (.t 12) (.t 13)),
             o1 15 (.load (some 4) (.t 14)),
             o1 16 (.call (.t 11) [(.t 15)])])
            (.cond (.t 16) (.seq (.reg [o1 17 (.mv (.t 5)),
               o1 4 (.mv (.t 17))])
              (.ret)) (.skip)))))
         (.reg [o1 18 (.bin .add (.t 8) (cI 1)),
          o1 8 (.mv (.t 18))])))))))
   (.seq (.reg [o1 4 (.mv (cI (-1)))])
    (.ret)))
theorem s137_ok : lookF Try.prog 137 = some (s137, 19, [.tmp 4]) := by kernel_rfl
theorem sndIdx_ok (l : List Sound) (p : Sound → Bool) (g : FuncId) (caps : List AV) (hc : ∀ c ∈ caps, AV.Still c) (hp : ∀ x, x ∈ l → Fn P g (valA x :: caps) (boolA (p x))) :
    Fn P 137 [sl l, .clo g caps] (intA (match l.findIdx? p with | some i => (i : Int) | none => -1)) := by
  have h1 := caps_seen hc
  have h2 := caps_bel hc
  (refine fn_look s137_ok (by simp) (by intro k; simp only [go_sem, Nat.reduceEqDiff, ↓reduceIte, reduceCtorEq, Nat.reduceAdd, Nat.reduceMul, Int.reduceToNat, List.reduceReplicate, Nat.reduceLeDiff, Nat.reduceLT, Int.reduceLT, Int.reduceLE, Int.reduceEq]) fun S hS => cwp_sound _ _ _ _ ?_; simp (maxSteps := 900000) (disch := omega) only [s137, go_sem, Nat.reduceEqDiff, ↓reduceIte, reduceCtorEq, Nat.reduceAdd, Nat.reduceMul, Int.reduceToNat, List.reduceReplicate, Nat.reduceLeDiff, Nat.reduceLT, Int.reduceLT, Int.reduceLE, Int.reduceEq])
  repeat' (first | with_reducible refine inw ?_ | simp (maxSteps := 900000) (disch := omega) only [go_sem, Nat.reduceEqDiff, ↓reduceIte, reduceCtorEq, Nat.reduceAdd, Nat.reduceMul, Int.reduceToNat, List.reduceReplicate, Nat.reduceLeDiff, Nat.reduceLT, Int.reduceLT, Int.reduceLE, Int.reduceEq, h1, h2] | with_reducible refine pickB_f ?_ | with_reducible refine giv_intro fun _h => ?_ | with_reducible refine alt_intro ?_ fun _h => ?_ | with_reducible refine pickD_nil ?_ | (with_reducible refine brc (fun _h => ?_) fun _h => ?_) <;> first | (exfalso; omega) | simp only [decide_eq_false _h] | simp only [(_h : (_ : Bool) = _)] | simp only [decide_eq_true _h] | skip)
  (refine loopC hS [0, 1, 7] (by simp only [go_sem, Nat.reduceEqDiff, ↓reduceIte, reduceCtorEq, Nat.reduceAdd, Nat.reduceMul, Int.reduceToNat, List.reduceReplicate, Nat.reduceLeDiff, Nat.reduceLT, Int.reduceLT, Int.reduceLE, Int.reduceEq]; try rfl) (fun (i : Nat) => [(8, intA i)]) (fun (i : Nat) => []) (fun (i : Nat) => i ≤ l.length ∧ l.findIdx? p = ((l.drop i).findIdx? p).map (· + i)) (fun (i : Nat) => l.length - i) (0) ?_ (by intro s; first | (simp only [List.length_cons, List.length_nil]; done) | rfl | (rcases s with ⟨_, _⟩; rfl) | (rcases s with ⟨_, _, _⟩; rfl) | (rcases s with ⟨_, _, _, _⟩; rfl) | (rcases s with ⟨_, _, _, _, _⟩; rfl)) ?_)
  · simp (maxSteps := 900000) (disch := omega) only [go_sem, Nat.reduceEqDiff, ↓reduceIte, reduceCtorEq, Nat.reduceAdd, Nat.reduceMul, Int.reduceToNat, List.reduceReplicate, Nat.reduceLeDiff, Nat.reduceLT, Int.reduceLT, Int.reduceLE, Int.reduceEq]; simp
  rintro i ⟨hi, hI⟩
  replace hi : i ≤ l.length := hi
  replace hI : l.findIdx? p = ((l.drop i).findIdx? p).map (· + i) := hI
  repeat' (first | with_reducible refine inw ?_ | simp (maxSteps := 900000) (disch := omega) only [go_sem, Nat.reduceEqDiff, ↓reduceIte, reduceCtorEq, Nat.reduceAdd, Nat.reduceMul, Int.reduceToNat, List.reduceReplicate, Nat.reduceLeDiff, Nat.reduceLT, Int.reduceLT, Int.reduceLE, Int.reduceEq, h1, h2] | (with_reducible apply call (hp _ (nth_mem (by assumption)))); (focus simp (maxSteps := 900000) (disch := omega) only [go_sem, Nat.reduceEqDiff, ↓reduceIte, reduceCtorEq, Nat.reduceAdd, Nat.reduceMul, Int.reduceToNat, List.reduceReplicate, Nat.reduceLeDiff, Nat.reduceLT, Int.reduceLT, Int.reduceLE, Int.reduceEq, h1, h2] <;> rfl) | with_reducible refine pickB_f ?_ | with_reducible refine giv_intro fun _h => ?_ | with_reducible refine alt_intro ?_ fun _h => ?_ | with_reducible refine pickD_nil ?_ | (with_reducible refine brc (fun _h => ?_) fun _h => ?_) <;> first | (exfalso; omega) | simp only [decide_eq_false _h] | simp only [(_h : (_ : Bool) = _)] | simp only [decide_eq_true _h] | skip)
  · rw [hI, nth_drop (by assumption)]
    simp_all [List.findIdx?_cons]
  · refine ⟨i + 1, ⟨by omega, by omega, ?_⟩, by omega⟩
    rw [hI, nth_drop (by assumption), List.findIdx?_cons]
    simp_all [Function.comp_def, Nat.add_comm, Nat.add_left_comm]
  · rw [hI, List.drop_eq_nil_of_le (by omega)]; rfl
/-- slices.ContainsFunc[[]ablaut/api.Sound,ablaut/api.Sound]: 2 parameters, 0 captured -/
def s106 : SC := .seq (.reg [o1 4 (.mv (cB false))])
  (.seq (.reg [o1 5 (.mv (.t 0)),
    o1 6 (.mv (.t 1)),
    o1 7 (.call (.f 137) [(.t 5), (.t 6)]),
    o1 8 (.bin .geq (.t 7) (cI 0)),
    o1 4 (.mv (.t 8))])
   (.ret))
theorem s106_ok : lookF Try.prog 106 = some (s106, 9, [.tmp 4]) := by kernel_rfl
theorem sndAny_ok (l : List Sound) (p : Sound → Bool) (g : FuncId) (caps : List AV) (hc : ∀ c ∈ caps, AV.Still c) (hp : ∀ x, x ∈ l → Fn P g (valA x :: caps) (boolA (p x))) :
    Fn P 106 [sl l, .clo g caps] (boolA (l.any p)) := by
  have h1 := caps_seen hc
  have h2 := caps_bel hc
  (refine fn_look s106_ok (by simp) (by intro k; simp only [go_sem, Nat.reduceEqDiff, ↓reduceIte, reduceCtorEq, Nat.reduceAdd, Nat.reduceMul, Int.reduceToNat, List.reduceReplicate, Nat.reduceLeDiff, Nat.reduceLT, Int.reduceLT, Int.reduceLE, Int.reduceEq]) fun S hS => cwp_sound _ _ _ _ ?_; simp (maxSteps := 900000) (disch := omega) only [s106, go_sem, Nat.reduceEqDiff, ↓reduceIte, reduceCtorEq, Nat.reduceAdd, Nat.reduceMul, Int.reduceToNat, List.reduceReplicate, Nat.reduceLeDiff, Nat.reduceLT, Int.reduceLT, Int.reduceLE, Int.reduceEq])
  repeat' (first | with_reducible refine inw ?_ | simp (maxSteps := 900000) (disch := omega) only [go_sem, Nat.reduceEqDiff, ↓reduceIte, reduceCtorEq, Nat.reduceAdd, Nat.reduceMul, Int.reduceToNat, List.reduceReplicate, Nat.reduceLeDiff, Nat.reduceLT, Int.reduceLT, Int.reduceLE, Int.reduceEq, h1, h2] | (with_reducible apply call (sndIdx_ok l p g caps hc hp)); (focus simp (maxSteps := 900000) (disch := omega) only [go_sem, Nat.reduceEqDiff, ↓reduceIte, reduceCtorEq, Nat.reduceAdd, Nat.reduceMul, Int.reduceToNat, List.reduceReplicate, Nat.reduceLeDiff, Nat.reduceLT, Int.reduceLT, Int.reduceLE, Int.reduceEq, h1, h2] <;> rfl) | with_reducible refine pickB_f ?_ | with_reducible refine giv_intro fun _h => ?_ | with_reducible refine alt_intro ?_ fun _h => ?_ | with_reducible refine pickD_nil ?_ | (with_reducible refine brc (fun _h => ?_) fun _h => ?_) <;> first | (exfalso; omega) | simp only [decide_eq_false _h] | simp only [(_h : (_ : Bool) = _)] | simp only [decide_eq_true _h] | skip)
  exact findIdx_anyG
/-- ablaut/harm.Validate$1: 1 parameters, 0 captured -/
def s107 : SC := .seq (.reg [o1 1 (.box 74 4 (.t 0)),
   o1 2 (.mv (cB false))])
  (.seq (.reg [o1 3 (.faddr 0 (.t 1)),
    o1 4 (.load none (.t 3)),
    o1 5 (.lenS (.t 4)),
    o1 6 (.bin .gtr (.t 5) (cI 16)),
    o1 2 (.mv (.t 6))])
   (.ret))
theorem s107_ok : lookF Try.prog 107 = some (s107, 7, [.tmp 2]) := by kernel_rfl
theorem sndLong_ok (r : Sound) : Fn P 107 [valA r] (boolA (decide (16 < r.1.size))) := by
  (refine fn_look s107_ok (by simp) (by intro k; simp only [go_sem, Nat.reduceEqDiff, ↓reduceIte, reduceCtorEq, Nat.reduceAdd, Nat.reduceMul, Int.reduceToNat, List.reduceReplicate, Nat.reduceLeDiff, Nat.reduceLT, Int.reduceLT, Int.reduceLE, Int.reduceEq]) fun S hS => cwp_sound _ _ _ _ ?_; simp (maxSteps := 900000) (disch := omega) only [s107, go_sem, Nat.reduceEqDiff, ↓reduceIte, reduceCtorEq, Nat.reduceAdd, Nat.reduceMul, Int.reduceToNat, List.reduceReplicate, Nat.reduceLeDiff, Nat.reduceLT, Int.reduceLT, Int.reduceLE, Int.reduceEq])
  repeat' (first | with_reducible refine inw ?_ | simp (maxSteps := 900000) (disch := omega) only [go_sem, Nat.reduceEqDiff, ↓reduceIte, reduceCtorEq, Nat.reduceAdd, Nat.reduceMul, Int.reduceToNat, List.reduceReplicate, Nat.reduceLeDiff, Nat.reduceLT, Int.reduceLT, Int.reduceLE, Int.reduceEq] | with_reducible refine pickB_f ?_ | with_reducible refine giv_intro fun _h => ?_ | with_reducible refine alt_intro ?_ fun _h => ?_ | with_reducible refine pickD_nil ?_ | (with_reducible refine brc (fun _h => ?_) fun _h => ?_) <;> first | (exfalso; omega) | simp only [decide_eq_false _h] | simp only [(_h : (_ : Bool) = _)] | simp only [decide_eq_true _h] | skip)
  rw [Bool.eq_iff_iff]; simp; omega
/-- ablaut/harm.isSymbol: 1 parameters, 0 captured -/
def s108 : SC := .seq (.reg [o1 2 (.mv (cB false))])
  (.seq (.reg [o1 3 (.mv (.t 0)),
    o1 4 (.buildSl 9 1 1 [(.string ⟨#[]⟩)] [(0, 1, (.t 3))]),
    o1 5 (.call (.f 110) [(.t 4)]),
    o1 6 (.bin .eql (.t 5) (cI 0)),
    o1 2 (.mv (.t 6))])
   (.ret))
theorem s108_ok : lookF Try.prog 108 = some (s108, 7, [.tmp 2]) := by kernel_rfl
theorem hIsSymbol_ok (s : Str) : Fn P 108 [strA s] (boolA (goodS s)) := by
  have e : decide (wordErr [s] = 0) = goodS s := by
    have e2 : ([s].any fun s => !(okText s && decide (s.size ≠ 0))) = !(okText s && decide (s.size ≠ 0)) := by rw [List.any_cons, List.any_nil, Bool.or_false]
    unfold wordErr
    by_cases h : 16 < s.size
    · rw [if_pos (by simp [h]), goodS, decide_eq_false (p := s.size ≤ 16) (by omega)]; simp
    · rw [if_neg (by simp; omega), e2, goodS, decide_eq_true (p := s.size ≤ 16) (by omega)]
      by_cases h0 : s.size = 0
      · rw [decide_eq_false (p := s.size ≠ 0) (by omega), decide_eq_false (p := 1 ≤ s.size) (by omega)]; simp
      · rw [decide_eq_true (p := s.size ≠ 0) (by omega), decide_eq_true (p := 1 ≤ s.size) (by omega)]
        cases okText s <;> rfl
  (refine fn_look s108_ok (by simp) (by intro k; simp only [go_sem, Nat.reduceEqDiff, ↓reduceIte, reduceCtorEq, Nat.reduceAdd, Nat.reduceMul, Int.reduceToNat, List.reduceReplicate, Nat.reduceLeDiff, Nat.reduceLT, Int.reduceLT, Int.reduceLE, Int.reduceEq]) fun S hS => cwp_sound _ _ _ _ ?_; simp (maxSteps := 900000) (disch := omega) only [s108, go_sem, Nat.reduceEqDiff, ↓reduceIte, reduceCtorEq, Nat.reduceAdd, Nat.reduceMul, Int.reduceToNat, List.reduceReplicate, Nat.reduceLeDiff, Nat.reduceLT, Int.reduceLT, Int.reduceLE, Int.reduceEq])
  repeat' (first | with_reducible refine inw ?_ | simp (maxSteps := 900000) (disch := omega) only [go_sem, Nat.reduceEqDiff, ↓reduceIte, reduceCtorEq, Nat.reduceAdd, Nat.reduceMul, Int.reduceToNat, List.reduceReplicate, Nat.reduceLeDiff, Nat.reduceLT, Int.reduceLT, Int.reduceLE, Int.reduceEq, e] | (with_reducible apply call_lend (ValidateWord_ok [s])); (focus simp (maxSteps := 900000) (disch := omega) only [go_sem, Nat.reduceEqDiff, ↓reduceIte, reduceCtorEq, Nat.reduceAdd, Nat.reduceMul, Int.reduceToNat, List.reduceReplicate, Nat.reduceLeDiff, Nat.reduceLT, Int.reduceLT, Int.reduceLE, Int.reduceEq, e] <;> rfl); (focus rfl) | with_reducible refine pickB_f ?_ | with_reducible refine giv_intro fun _h => ?_ | with_reducible refine alt_intro ?_ fun _h => ?_ | with_reducible refine pickD_nil ?_ | (with_reducible refine brc (fun _h => ?_) fun _h => ?_) <;> first | (exfalso; omega) | simp only [decide_eq_false _h] | simp only [(_h : (_ : Bool) = _)] | simp only [decide_eq_true _h] | skip)
/-- ablaut/harm.first: 1 parameters, 0 captured -/
def s62 : SC := .seq (.reg [o1 2 (.mv (cI 0))])
  (.seq (.seq (.reg [o1 5 (.mv (.t 0)),
     o1 6 (.lenL (.t 5)),
     o1 7 (.mv (cI 0))])
    (.block 0 (.loop (.seq (.reg [o1 8 (.bin .lss (.t 7) (.t 6))])
       (.seq (.cond (.t 8) (.skip) (.exit 0))
        (.seq (.block 1 (.seq (.reg [o1 9 (.iaddr 1 (.t 5) (.t 7)),
            o1 10 (.load none (.t 9)),
            o1 4 (.mv (.t 10))])
           (.seq (.reg [o1 11 (.mv (.t 4)),
             o1 12 (.bin .neq (.t 11) (cI 0))])
            (.cond (.t 12) (.seq (.reg [o1 13 (.mv (.t 4)),
               o1 2 (.mv (.t 13))])
              (.ret)) (.skip)))))
         (.reg [o1 14 (.bin .add (.t 7) (cI 1)),
          o1 7 (.mv (.t 14))])))))))
   (.seq (.reg [o1 2 (.mv (cI 0))])
    (.ret)))
theorem s62_ok : lookF Try.prog 62 = some (s62, 15, [.tmp 2]) := by kernel_rfl
def firstE : List Int → Int
  | [] => 0
  | e :: l => if e ≠ 0 then e else firstE l
theorem first_ok (l : List Int) : Fn P 62 [sl l] (intA (firstE l)) := by
  (refine fn_look s62_ok (by simp) (by intro k; simp only [go_sem, Nat.reduceEqDiff, ↓reduceIte, reduceCtorEq, Nat.reduceAdd, Nat.reduceMul, Int.reduceToNat, List.reduceReplicate, Nat.reduceLeDiff, Nat.reduceLT, Int.reduceLT, Int.reduceLE, Int.reduceEq]) fun S hS => cwp_sound _ _ _ _ ?_; simp (maxSteps := 900000) (disch := omega) only [s62, go_sem, Nat.reduceEqDiff, ↓reduceIte, reduceCtorEq, Nat.reduceAdd, Nat.reduceMul, Int.reduceToNat, List.reduceReplicate, Nat.reduceLeDiff, Nat.reduceLT, Int.reduceLT, Int.reduceLE, Int.reduceEq])
  repeat' (first | with_reducible refine inw ?_ | simp (maxSteps := 900000) (disch := omega) only [go_sem, Nat.reduceEqDiff, ↓reduceIte, reduceCtorEq, Nat.reduceAdd, Nat.reduceMul, Int.reduceToNat, List.reduceReplicate, Nat.reduceLeDiff, Nat.reduceLT, Int.reduceLT, Int.reduceLE, Int.reduceEq] | with_reducible refine pickB_f ?_ | with_reducible refine giv_intro fun _h => ?_ | with_reducible refine alt_intro ?_ fun _h => ?_ | with_reducible refine pickD_nil ?_ | (with_reducible refine brc (fun _h => ?_) fun _h => ?_) <;> first | (exfalso; omega) | simp only [decide_eq_false _h] | simp only [(_h : (_ : Bool) = _)] | simp only [decide_eq_true _h] | skip)
  (refine loopC hS [5, 6] (by simp only [go_sem, Nat.reduceEqDiff, ↓reduceIte, reduceCtorEq, Nat.reduceAdd, Nat.reduceMul, Int.reduceToNat, List.reduceReplicate, Nat.reduceLeDiff, Nat.reduceLT, Int.reduceLT, Int.reduceLE, Int.reduceEq]; try rfl) (fun (i : Nat) => [(7, intA i)]) (fun (i : Nat) => []) (fun (i : Nat) => i ≤ l.length ∧ firstE l = firstE (l.drop i)) (fun (i : Nat) => l.length - i) (0) ?_ (by intro s; first | (simp only [List.length_cons, List.length_nil]; done) | rfl | (rcases s with ⟨_, _⟩; rfl) | (rcases s with ⟨_, _, _⟩; rfl) | (rcases s with ⟨_, _, _, _⟩; rfl) | (rcases s with ⟨_, _, _, _, _⟩; rfl)) ?_)
  · simp (maxSteps := 900000) (disch := omega) only [go_sem, Nat.reduceEqDiff, ↓reduceIte, reduceCtorEq, Nat.reduceAdd, Nat.reduceMul, Int.reduceToNat, List.reduceReplicate, Nat.reduceLeDiff, Nat.reduceLT, Int.reduceLT, Int.reduceLE, Int.reduceEq]; simp
  rintro i ⟨hi, hI⟩
  replace hi : i ≤ l.length := hi
  replace hI : firstE l = firstE (l.drop i) := hI
  repeat' (first | with_reducible refine inw ?_ | simp (maxSteps := 900000) (disch := omega) only [go_sem, Nat.reduceEqDiff, ↓reduceIte, reduceCtorEq, Nat.reduceAdd, Nat.reduceMul, Int.reduceToNat, List.reduceReplicate, Nat.reduceLeDiff, Nat.reduceLT, Int.reduceLT, Int.reduceLE, Int.reduceEq] | with_reducible refine pickB_f ?_ | with_reducible refine giv_intro fun _h => ?_ | with_reducible refine alt_intro ?_ fun _h => ?_ | with_reducible refine pickD_nil ?_ | (with_reducible refine brc (fun _h => ?_) fun _h => ?_) <;> first | (exfalso; omega) | simp only [decide_eq_false _h] | simp only [(_h : (_ : Bool) = _)] | simp only [decide_eq_true _h] | skip)
  · rw [hI, nth_drop (by assumption), firstE, if_pos (by assumption)]
  · refine ⟨i + 1, ⟨by omega, by omega, ?_⟩, by omega⟩
    rw [hI, nth_drop (by assumption), firstE, if_neg (by omega)]
  · rw [hI, List.drop_eq_nil_of_le (by omega)]; rfl

def badS (l : List Sound) (i : Nat) : Bool :=
  !goodS (nth l i).1 || (decide (0 < i) && !ltB (nth l (i - 1)).1 (nth l i).1) || decide ((nth l i).2.1 < 0) || decide (9 < (nth l i).2.1) || decide ((nth l i).2.2.2 < 0) || decide (5 < (nth l i).2.2.2)
def sndErr (l : List Sound) : Int := if 40 < l.length ∨ l.any (fun r => decide (16 < r.1.size)) = true then 3 else if (List.range l.length).any (badS l) = true then 1 else 0
theorem sndErr_3 {l : List Sound} (h : 40 < l.length ∨ l.any (fun r => decide (16 < r.1.size)) = true) : sndErr l = 3 := by rw [sndErr, if_pos h]
theorem sndErr_1 {l : List Sound} (h : ¬ 40 < l.length) (h2 : l.any (fun r => decide (16 < r.1.size)) = false) {i : Nat} (hi : i < l.length) (hb : badS l i = true) : sndErr l = 1 := by
  rw [sndErr, if_neg (by rw [h2]; simp; omega), if_pos]; exact List.any_eq_true.2 ⟨i, List.mem_range.2 hi, hb⟩
theorem sndErr_0 {l : List Sound} (h : ¬ 40 < l.length) (h2 : l.any (fun r => decide (16 < r.1.size)) = false) (hb : ∀ j, j < l.length → badS l j = false) : sndErr l = 0 := by
  rw [sndErr, if_neg (by rw [h2]; simp; omega), if_neg]
  intro h3
  obtain ⟨j, h4, h5⟩ := List.any_eq_true.1 h3
  rw [hb j (List.mem_range.1 h4)] at h5; cases h5

/-- ablaut/harm.Validate: 1 parameters, 0 captured -/
def s51 : SC := .seq (.reg [o1 1 (.box 37 1 (.t 0)),
   o1 2 (.mv (cI 0))])
  (.seq (.seq (.reg [o1 5 (.faddr 0 (.t 1)),
     o1 6 (.load none (.t 5)),
     o1 7 (.lenL (.t 6)),
     o1 8 (.bin .gtr (.t 7) (cI 40)),
     o1 9 (.mv (.t 8)),
     oF 10 (.faddr 0 (.t 1)) 9,
     oF 11 (.load none (.t 10)) 9,
     oF 12 (.call (.f 106) [(.t 11), (.f 107)]) 9,
     o1 13 (.pick (.t 9) (cB true) (.t 12))])
    (.cond (.t 13) (.seq (.reg [o1 2 (.mv (cI 3))])
      (.ret)) (.skip)))
   (.seq (.seq (.reg [o1 14 (.faddr 0 (.t 1)),
      o1 15 (.load none (.t 14)),
      o1 16 (.lenL (.t 15)),
      o1 17 (.mv (cI 0))])
     (.block 0 (.loop (.seq (.reg [o1 18 (.bin .lss (.t 17) (.t 16))])
        (.seq (.cond (.t 18) (.skip) (.exit 0))
         (.seq (.block 1 (.seq (.reg [o1 19 (.mv (.t 17)),
             o1 20 (.iaddr 4 (.t 15) (.t 17)),
             o1 21 (.load (some 4) (.t 20)),
             o1 4 (.alloc 74 4 [(.string ⟨#[]⟩), (.int .i64 0), (.bool false), (.int .i64 0)]),
             o1 3 (.mv (.t 19)),
             o0 (.store 4 (.t 4) (.t 21))])
            (.seq (.regC [(false, o1 22 (.faddr 0 (.t 4))),
              (false, o1 23 (.load none (.t 22))),
              (true, o1 24 (.call (.f 108) [(.t 23)])),
              (false, o1 25 (.un .not (.t 24))),
              (false, o1 26 (.mv (.t 25))),
              (false, oF 27 (.mv (.t 3)) 26),
              (false, oF 28 (.bin .gtr (.t 27) (cI 0)) 26),
              (false, oF 29 (.mv (.t 28)) 26),
              (false, oT 30 (.faddr 0 (.t 1)) 29),
              (false, oT 31 (.load none (.t 30)) 29),
              (false, oT 32 (.mv (.t 3)) 29),
              (false, oT 33 (.bin .sub (.t 32) (cI 1)) 29),
              (false, oT 34 (.iaddr 4 (.t 31) (.t 33)) 29),
              (false, oT 35 (.faddr 0 (.t 34)) 29),
              (false, oT 36 (.load none (.t 35)) 29),
              (false, oT 37 (.faddr 0 (.t 4)) 29),
              (false, oT 38 (.load none (.t 37)) 29),
              (false, oT 39 (.bin .geq (.t 36) (.t 38)) 29),
              (false, oF 40 (.pick (.t 29) (.t 39) (cB false)) 26),
              (false, o1 41 (.pick (.t 26) (cB true) (.t 40))),
              (false, o1 42 (.mv (.t 41))),
              (false, oF 43 (.faddr 1 (.t 4)) 42),
              (false, oF 44 (.load none (.t 43)) 42),
              (false, oF 45 (.bin .lss (.t 44) (cI 0)) 42),
              (false, o1 46 (.pick (.t 42) (cB true) (.t 45))),
              (false, o1 47 (.mv (.t 46))),
              (false, oF 48 (.faddr 1 (.t 4)) 47),
              (false, oF 49 (.load none (.t 48)) 47),
              (false, oF 50 (.bin .gtr (.t 49) (cI 9)) 47),
              (false, o1 51 (.pick (.t 47) (cB true) (.t 50))),
              (false, o1 52 (.mv (.t 51))),
              (false, oF 53 (.faddr 3 (.t 4)) 52),
              (false, oF 54 (.load none (.t 53)) 52),
              (false, oF 55 (.bin .lss (.t 54) (cI 0)) 52),
              (false, o1 56 (.pick (.t 52) (cB true) (.t 55))),
              (false, o1 57 (.mv (.t 56))),
              (false, oF 58 (.faddr 3 (.t 4)) 57),
              (false, oF 59 (.load none (.t 58)) 57),
              (false, oF 60 (.bin .gtr (.t 59) (cI 5)) 57),
              (false, o1 61 (.pick (.t 57) (cB true) (.t 60)))])
             (.cond (.t 61) (.seq (.reg [o1 2 (.mv (cI 1))])
               (.ret)) (.skip)))))
          (.reg [o1 62 (.bin .add (.t 17) (cI 1)),
           o1 17 (.mv (.t 62))])))))))
    (.seq (.reg [o1 2 (.mv (cI 0))])
     (.ret))))
theorem s51_ok : lookF Try.prog 51 = some (s51, 63, [.tmp 2]) := by kernel_rfl
set_option maxHeartbeats 1000000 in
theorem hValidate_ok (l : List Sound) : Fn P 51 [.agg [sl l]] (intA (sndErr l)) := by
  (refine fn_look s51_ok (by simp) (by intro k; simp only [go_sem, Nat.reduceEqDiff, ↓reduceIte, reduceCtorEq, Nat.reduceAdd, Nat.reduceMul, Int.reduceToNat, List.reduceReplicate, Nat.reduceLeDiff, Nat.reduceLT, Int.reduceLT, Int.reduceLE, Int.reduceEq]) fun S hS => cwp_sound _ _ _ _ ?_; simp (maxSteps := 900000) (disch := omega) only [s51, go_sem, Nat.reduceEqDiff, ↓reduceIte, reduceCtorEq, Nat.reduceAdd, Nat.reduceMul, Int.reduceToNat, List.reduceReplicate, Nat.reduceLeDiff, Nat.reduceLT, Int.reduceLT, Int.reduceLE, Int.reduceEq])
  repeat' (first | with_reducible refine inw ?_ | simp (maxSteps := 900000) (disch := omega) only [go_sem, Nat.reduceEqDiff, ↓reduceIte, reduceCtorEq, Nat.reduceAdd, Nat.reduceMul, Int.reduceToNat, List.reduceReplicate, Nat.reduceLeDiff, Nat.reduceLT, Int.reduceLT, Int.reduceLE, Int.reduceEq] | (with_reducible apply call (sndAny_ok l (fun r => decide (16 < r.1.size)) _ [] (by simp) fun x _ => sndLong_ok x)); (focus simp (maxSteps := 900000) (disch := omega) only [go_sem, Nat.reduceEqDiff, ↓reduceIte, reduceCtorEq, Nat.reduceAdd, Nat.reduceMul, Int.reduceToNat, List.reduceReplicate, Nat.reduceLeDiff, Nat.reduceLT, Int.reduceLT, Int.reduceLE, Int.reduceEq] <;> rfl) | with_reducible refine pickB_f ?_ | with_reducible refine giv_intro fun _h => ?_ | with_reducible refine alt_intro ?_ fun _h => ?_ | with_reducible refine pickD_nil ?_ | (with_reducible refine brc (fun _h => ?_) fun _h => ?_) <;> first | (exfalso; omega) | simp only [decide_eq_false _h] | simp only [(_h : (_ : Bool) = _)] | simp only [decide_eq_true _h] | skip)
  · rw [sndErr_3 (.inl (by omega))]
  · rw [sndErr_3 (.inr _h)]
  · (refine loopC hS [1, 15, 16] (by simp only [go_sem, Nat.reduceEqDiff, ↓reduceIte, reduceCtorEq, Nat.reduceAdd, Nat.reduceMul, Int.reduceToNat, List.reduceReplicate, Nat.reduceLeDiff, Nat.reduceLT, Int.reduceLT, Int.reduceLE, Int.reduceEq]; try rfl) (fun (i : Nat) => [(17, intA i)]) (fun (i : Nat) => [some (.row 37 1 [sl l])]) (fun (i : Nat) => i ≤ l.length ∧ ∀ j, j < i → badS l j = false) (fun (i : Nat) => l.length - i) (0) ?_ (by intro s; first | (simp only [List.length_cons, List.length_nil]; done) | rfl | (rcases s with ⟨_, _⟩; rfl) | (rcases s with ⟨_, _, _⟩; rfl) | (rcases s with ⟨_, _, _, _⟩; rfl) | (rcases s with ⟨_, _, _, _, _⟩; rfl)) ?_)
    · simp (maxSteps := 900000) (disch := omega) only [go_sem, Nat.reduceEqDiff, ↓reduceIte, reduceCtorEq, Nat.reduceAdd, Nat.reduceMul, Int.reduceToNat, List.reduceReplicate, Nat.reduceLeDiff, Nat.reduceLT, Int.reduceLT, Int.reduceLE, Int.reduceEq]; simp
    rintro i ⟨hi, hI⟩
    replace hi : i ≤ l.length := hi
    replace hI : ∀ j, j < i → badS l j = false := hI
    by_cases hil : i < l.length
    · have hp : i = 0 ∨ i - 1 < l.length := by omega
      have e1 : ((i : Int) - 1).toNat = i - 1 := by omega
      repeat' (first | with_reducible refine inw ?_ | simp (maxSteps := 900000) (disch := omega) only [go_sem, Nat.reduceEqDiff, ↓reduceIte, reduceCtorEq, Nat.reduceAdd, Nat.reduceMul, Int.reduceToNat, List.reduceReplicate, Nat.reduceLeDiff, Nat.reduceLT, Int.reduceLT, Int.reduceLE, Int.reduceEq, e1] | (with_reducible apply call_D (hIsSymbol_ok _)); (focus simp (maxSteps := 900000) (disch := omega) only [go_sem, Nat.reduceEqDiff, ↓reduceIte, reduceCtorEq, Nat.reduceAdd, Nat.reduceMul, Int.reduceToNat, List.reduceReplicate, Nat.reduceLeDiff, Nat.reduceLT, Int.reduceLT, Int.reduceLE, Int.reduceEq, e1] <;> rfl) | with_reducible refine pickB_f ?_ | with_reducible refine giv_intro fun _h => ?_ | with_reducible refine alt_intro ?_ fun _h => ?_ | with_reducible refine pickD_nil ?_ | (with_reducible refine brc (fun _h => ?_) fun _h => ?_) <;> first | (exfalso; omega) | simp only [decide_eq_false _h] | simp only [(_h : (_ : Bool) = _)] | simp only [decide_eq_true _h] | skip)
      all_goals first
        | (refine (sndErr_1 (by omega) (by assumption) hil ?_).symm
           simp only [badS, Bool.or_eq_true, Bool.and_eq_true, Bool.not_eq_true', decide_eq_true_eq]
           first
             | exact .inl (.inl (.inl (.inl (.inl (by assumption)))))
             | exact .inl (.inl (.inl (.inl (.inr ⟨by omega, by assumption⟩))))
             | exact .inl (.inl (.inl (.inr (by omega))))
             | exact .inl (.inl (.inr (by omega)))
             | exact .inl (.inr (by omega))
             | exact .inr (by omega))
        | (refine ⟨i + 1, ⟨by omega, by omega, fun j hj => ?_⟩, by omega⟩
           by_cases e : j = i
           · subst e
             simp only [badS, Bool.or_eq_false_iff, Bool.and_eq_false_iff, Bool.not_eq_false', decide_eq_false_iff_not]
             exact ⟨⟨⟨⟨⟨by assumption, by first | (right; assumption) | (left; omega)⟩, by omega⟩, by omega⟩, by omega⟩, by omega⟩
           · exact hI j (by omega))
    · repeat' (first | with_reducible refine inw ?_ | simp (maxSteps := 900000) (disch := omega) only [go_sem, Nat.reduceEqDiff, ↓reduceIte, reduceCtorEq, Nat.reduceAdd, Nat.reduceMul, Int.reduceToNat, List.reduceReplicate, Nat.reduceLeDiff, Nat.reduceLT, Int.reduceLT, Int.reduceLE, Int.reduceEq] | with_reducible refine pickB_f ?_ | with_reducible refine giv_intro fun _h => ?_ | with_reducible refine alt_intro ?_ fun _h => ?_ | with_reducible refine pickD_nil ?_ | (with_reducible refine brc (fun _h => ?_) fun _h => ?_) <;> first | (exfalso; omega) | simp only [decide_eq_false _h] | simp only [(_h : (_ : Bool) = _)] | simp only [decide_eq_true _h] | skip)
      rw [sndErr_0 (by omega) (by assumption) fun j hj => hI j (by omega)]

theorem sAny_step {l : List Sound} {i : Nat} (h : ∀ j, j < i → (nth l j).1.size ≤ 16) (hi : l.length ≤ i) : l.any (fun r => decide (16 < r.1.size)) = false := by
  rw [← Bool.not_eq_true]; intro h2
  obtain ⟨r, h3, h4⟩ := List.any_eq_true.1 h2
  obtain ⟨j, hj, rfl⟩ := List.getElem_of_mem h3
  have := h j (by omega)
  rw [nth_eq hj] at this
  simp at h4; omega
/-- ablaut/ablautref13.Validate: 1 parameters, 0 captured -/
def s52 : SC := .seq (.reg [o1 1 (.box 37 1 (.t 0)),
   o1 2 (.mv (cI 0))])
  (.seq (.seq (.reg [o1 6 (.faddr 0 (.t 1)),
     o1 7 (.load none (.t 6)),
     o1 8 (.lenL (.t 7)),
     o1 9 (.bin .gtr (.t 8) (cI 40))])
    (.cond (.t 9) (.seq (.reg [o1 2 (.mv (cI 3))])
      (.ret)) (.skip)))
   (.seq (.seq (.reg [o1 3 (.mv (cI 0))])
     (.block 0 (.loop (.seq (.seq (.reg [o1 10 (.mv (.t 3)),
          o1 11 (.faddr 0 (.t 1)),
          o1 12 (.load none (.t 11)),
          o1 13 (.lenL (.t 12)),
          o1 14 (.bin .lss (.t 10) (.t 13))])
         (.cond (.t 14) (.skip) (.exit 0)))
        (.seq (.block 1 (.seq (.reg [o1 17 (.faddr 0 (.t 1)),
            o1 18 (.load none (.t 17)),
            o1 19 (.mv (.t 3)),
            o1 20 (.iaddr 4 (.t 18) (.t 19)),
            o1 21 (.faddr 0 (.t 20)),
            o1 22 (.load none (.t 21)),
            o1 23 (.lenS (.t 22)),
            o1 24 (.bin .gtr (.t 23) (cI 16))])
           (.cond (.t 24) (.seq (.reg [o1 2 (.mv (cI 3))])
             (.ret)) (.skip))))
         (.reg [o1 15 (.mv (.t 3)),
          o1 16 (.bin .add (.t 15) (cI 1)),
          o1 3 (.mv (.t 16))]))))))
    (.seq (.seq (.reg [o1 4 (.mv (cI 0))])
      (.block 2 (.loop (.seq (.seq (.reg [o1 25 (.mv (.t 4)),
           o1 26 (.faddr 0 (.t 1)),
           o1 27 (.load none (.t 26)),
           o1 28 (.lenL (.t 27)),
           o1 29 (.bin .lss (.t 25) (.t 28))])
          (.cond (.t 29) (.skip) (.exit 2)))
         (.seq (.block 3 (.seq (.reg [o1 32 (.faddr 0 (.t 1)),
             o1 33 (.load none (.t 32)),
             o1 34 (.mv (.t 4)),
             o1 35 (.iaddr 4 (.t 33) (.t 34)),
             o1 36 (.load (some 4) (.t 35)),
             o1 5 (.alloc 74 4 [(.string ⟨#[]⟩), (.int .i64 0), (.bool false), (.int .i64 0)]),
             o0 (.store 4 (.t 5) (.t 36))])
            (.seq (.regC [(false, o1 37 (.faddr 0 (.t 5))),
              (false, o1 38 (.load none (.t 37))),
              (true, o1 39 (.call (.f 109) [(.t 38)])),
              (false, o1 40 (.un .not (.t 39))),
              (false, o1 41 (.mv (.t 40))),
              (false, oF 42 (.mv (.t 4)) 41),
              (false, oF 43 (.bin .gtr (.t 42) (cI 0)) 41),
              (false, oF 44 (.mv (.t 43)) 41),
              (false, oT 45 (.faddr 0 (.t 1)) 44),
              (false, oT 46 (.load none (.t 45)) 44),
              (false, oT 47 (.mv (.t 4)) 44),
              (false, oT 48 (.bin .sub (.t 47) (cI 1)) 44),
              (false, oT 49 (.iaddr 4 (.t 46) (.t 48)) 44),
              (false, oT 50 (.faddr 0 (.t 49)) 44),
              (false, oT 51 (.load none (.t 50)) 44),
              (false, oT 52 (.faddr 0 (.t 5)) 44),
              (false, oT 53 (.load none (.t 52)) 44),
              (false, oT 54 (.bin .geq (.t 51) (.t 53)) 44),
              (false, oF 55 (.pick (.t 44) (.t 54) (cB false)) 41),
              (false, o1 56 (.pick (.t 41) (cB true) (.t 55))),
              (false, o1 57 (.mv (.t 56))),
              (false, oF 58 (.faddr 1 (.t 5)) 57),
              (false, oF 59 (.load none (.t 58)) 57),
              (false, oF 60 (.bin .lss (.t 59) (cI 0)) 57),
              (false, o1 61 (.pick (.t 57) (cB true) (.t 60))),
              (false, o1 62 (.mv (.t 61))),
              (false, oF 63 (.faddr 1 (.t 5)) 62),
              (false, oF 64 (.load none (.t 63)) 62),
              (false, oF 65 (.bin .gtr (.t 64) (cI 9)) 62),
              (false, o1 66 (.pick (.t 62) (cB true) (.t 65))),
              (false, o1 67 (.mv (.t 66))),
              (false, oF 68 (.faddr 3 (.t 5)) 67),
              (false, oF 69 (.load none (.t 68)) 67),
              (false, oF 70 (.bin .lss (.t 69) (cI 0)) 67),
              (false, o1 71 (.pick (.t 67) (cB true) (.t 70))),
              (false, o1 72 (.mv (.t 71))),
              (false, oF 73 (.faddr 3 (.t 5)) 72),
              (false, oF 74 (.load none (.t 73)) 72),
              (false, oF 75 (.bin .gtr (.t 74) (cI 5)) 72),
              (false, o1 76 (.pick (.t 72) (cB true) (.t 75)))])
             (.cond (.t 76) (.seq (.reg [o1 2 (.mv (cI 1))])
               (.ret)) (.skip)))))
          (.reg [o1 30 (.mv (.t 4)),
           o1 31 (.bin .add (.t 30) (cI 1)),
           o1 4 (.mv (.t 31))]))))))
     (.seq (.reg [o1 2 (.mv (cI 0))])
      (.ret)))))
theorem s52_ok : lookF Try.prog 52 = some (s52, 77, [.tmp 2]) := by kernel_rfl
set_option maxHeartbeats 1000000 in
theorem rValidate_ok (l : List Sound) : Fn P 52 [.agg [sl l]] (intA (sndErr l)) := by
  (refine fn_look s52_ok (by simp) (by intro k; simp only [go_sem, Nat.reduceEqDiff, ↓reduceIte, reduceCtorEq, Nat.reduceAdd, Nat.reduceMul, Int.reduceToNat, List.reduceReplicate, Nat.reduceLeDiff, Nat.reduceLT, Int.reduceLT, Int.reduceLE, Int.reduceEq]) fun S hS => cwp_sound _ _ _ _ ?_; simp (maxSteps := 900000) (disch := omega) only [s52, go_sem, Nat.reduceEqDiff, ↓reduceIte, reduceCtorEq, Nat.reduceAdd, Nat.reduceMul, Int.reduceToNat, List.reduceReplicate, Nat.reduceLeDiff, Nat.reduceLT, Int.reduceLT, Int.reduceLE, Int.reduceEq])
  repeat' (first | with_reducible refine inw ?_ | simp (maxSteps := 900000) (disch := omega) only [go_sem, Nat.reduceEqDiff, ↓reduceIte, reduceCtorEq, Nat.reduceAdd, Nat.reduceMul, Int.reduceToNat, List.reduceReplicate, Nat.reduceLeDiff, Nat.reduceLT, Int.reduceLT, Int.reduceLE, Int.reduceEq] | with_reducible refine pickB_f ?_ | with_reducible refine giv_intro fun _h => ?_ | with_reducible refine alt_intro ?_ fun _h => ?_ | with_reducible refine pickD_nil ?_ | (with_reducible refine brc (fun _h => ?_) fun _h => ?_) <;> first | (exfalso; omega) | simp only [decide_eq_false _h] | simp only [(_h : (_ : Bool) = _)] | simp only [decide_eq_true _h] | skip)
  · rw [sndErr_3 (.inl (by omega))]
  (refine loopC hS [1] (by simp only [go_sem, Nat.reduceEqDiff, ↓reduceIte, reduceCtorEq, Nat.reduceAdd, Nat.reduceMul, Int.reduceToNat, List.reduceReplicate, Nat.reduceLeDiff, Nat.reduceLT, Int.reduceLT, Int.reduceLE, Int.reduceEq]; try rfl) (fun (i : Nat) => [(3, intA i)]) (fun (i : Nat) => [some (.row 37 1 [sl l])]) (fun (i : Nat) => i ≤ l.length ∧ ∀ j, j < i → (nth l j).1.size ≤ 16) (fun (i : Nat) => l.length - i) (0) ?_ (by intro s; first | (simp only [List.length_cons, List.length_nil]; done) | rfl | (rcases s with ⟨_, _⟩; rfl) | (rcases s with ⟨_, _, _⟩; rfl) | (rcases s with ⟨_, _, _, _⟩; rfl) | (rcases s with ⟨_, _, _, _, _⟩; rfl)) ?_)
  · simp (maxSteps := 900000) (disch := omega) only [go_sem, Nat.reduceEqDiff, ↓reduceIte, reduceCtorEq, Nat.reduceAdd, Nat.reduceMul, Int.reduceToNat, List.reduceReplicate, Nat.reduceLeDiff, Nat.reduceLT, Int.reduceLT, Int.reduceLE, Int.reduceEq]; simp
  rintro i ⟨hi, hI⟩
  replace hi : i ≤ l.length := hi
  replace hI : ∀ j, j < i → (nth l j).1.size ≤ 16 := hI
  by_cases hil : i < l.length
  · repeat' (first | with_reducible refine inw ?_ | simp (maxSteps := 900000) (disch := omega) only [go_sem, Nat.reduceEqDiff, ↓reduceIte, reduceCtorEq, Nat.reduceAdd, Nat.reduceMul, Int.reduceToNat, List.reduceReplicate, Nat.reduceLeDiff, Nat.reduceLT, Int.reduceLT, Int.reduceLE, Int.reduceEq] | with_reducible refine pickB_f ?_ | with_reducible refine giv_intro fun _h => ?_ | with_reducible refine alt_intro ?_ fun _h => ?_ | with_reducible refine pickD_nil ?_ | (with_reducible refine brc (fun _h => ?_) fun _h => ?_) <;> first | (exfalso; omega) | simp only [decide_eq_false _h] | simp only [(_h : (_ : Bool) = _)] | simp only [decide_eq_true _h] | skip)
    · rw [sndErr_3 (.inr (List.any_eq_true.2 ⟨nth l i, nth_mem hil, by simp; omega⟩))]
    · refine ⟨i + 1, ⟨by omega, by omega, fun j hj => ?_⟩, by omega⟩
      by_cases e : j = i
      · subst e; omega
      · exact hI j (by omega)
  · have hany := sAny_step hI (by omega)
    repeat' (first | with_reducible refine inw ?_ | simp (maxSteps := 900000) (disch := omega) only [go_sem, Nat.reduceEqDiff, ↓reduceIte, reduceCtorEq, Nat.reduceAdd, Nat.reduceMul, Int.reduceToNat, List.reduceReplicate, Nat.reduceLeDiff, Nat.reduceLT, Int.reduceLT, Int.reduceLE, Int.reduceEq] | with_reducible refine pickB_f ?_ | with_reducible refine giv_intro fun _h => ?_ | with_reducible refine alt_intro ?_ fun _h => ?_ | with_reducible refine pickD_nil ?_ | (with_reducible refine brc (fun _h => ?_) fun _h => ?_) <;> first | (exfalso; omega) | simp only [decide_eq_false _h] | simp only [(_h : (_ : Bool) = _)] | simp only [decide_eq_true _h] | skip)
    (refine loopC hS [1] (by simp only [go_sem, Nat.reduceEqDiff, ↓reduceIte, reduceCtorEq, Nat.reduceAdd, Nat.reduceMul, Int.reduceToNat, List.reduceReplicate, Nat.reduceLeDiff, Nat.reduceLT, Int.reduceLT, Int.reduceLE, Int.reduceEq]; try rfl) (fun (i : Nat) => [(4, intA i)]) (fun (i : Nat) => [some (.row 37 1 [sl l])]) (fun (i : Nat) => i ≤ l.length ∧ ∀ j, j < i → badS l j = false) (fun (i : Nat) => l.length - i) (0) ?_ (by intro s; first | (simp only [List.length_cons, List.length_nil]; done) | rfl | (rcases s with ⟨_, _⟩; rfl) | (rcases s with ⟨_, _, _⟩; rfl) | (rcases s with ⟨_, _, _, _⟩; rfl) | (rcases s with ⟨_, _, _, _, _⟩; rfl)) ?_)
    · simp (maxSteps := 900000) (disch := omega) only [go_sem, Nat.reduceEqDiff, ↓reduceIte, reduceCtorEq, Nat.reduceAdd, Nat.reduceMul, Int.reduceToNat, List.reduceReplicate, Nat.reduceLeDiff, Nat.reduceLT, Int.reduceLT, Int.reduceLE, Int.reduceEq]; simp
    rintro i ⟨hi, hI⟩
    replace hi : i ≤ l.length := hi
    replace hI : ∀ j, j < i → badS l j = false := hI
    by_cases hil : i < l.length
    · have hp : i = 0 ∨ i - 1 < l.length := by omega
      have e1 : ((i : Int) - 1).toNat = i - 1 := by omega
      have hsz : ByteArray.size (nth l i).1 ≤ 4611686018427387904 := by
        have h3 := List.any_eq_false.1 hany _ (nth_mem hil)
        simp at h3; omega
      have c1 := IsSymbol_ok (nth l i).1 hsz
      repeat' (first | with_reducible refine inw ?_ | simp (maxSteps := 900000) (disch := omega) only [go_sem, Nat.reduceEqDiff, ↓reduceIte, reduceCtorEq, Nat.reduceAdd, Nat.reduceMul, Int.reduceToNat, List.reduceReplicate, Nat.reduceLeDiff, Nat.reduceLT, Int.reduceLT, Int.reduceLE, Int.reduceEq, e1] | (with_reducible apply call_D (c1)); (focus simp (maxSteps := 900000) (disch := omega) only [go_sem, Nat.reduceEqDiff, ↓reduceIte, reduceCtorEq, Nat.reduceAdd, Nat.reduceMul, Int.reduceToNat, List.reduceReplicate, Nat.reduceLeDiff, Nat.reduceLT, Int.reduceLT, Int.reduceLE, Int.reduceEq, e1] <;> rfl) | with_reducible refine pickB_f ?_ | with_reducible refine giv_intro fun _h => ?_ | with_reducible refine alt_intro ?_ fun _h => ?_ | with_reducible refine pickD_nil ?_ | (with_reducible refine brc (fun _h => ?_) fun _h => ?_) <;> first | (exfalso; omega) | simp only [decide_eq_false _h] | simp only [(_h : (_ : Bool) = _)] | simp only [decide_eq_true _h] | skip)
      all_goals first
        | (refine (sndErr_1 (by omega) (by assumption) hil ?_).symm
           simp only [badS, goodS, Bool.or_eq_true, Bool.and_eq_true, Bool.not_eq_true', decide_eq_true_eq]
           first
             | exact .inl (.inl (.inl (.inl (.inl (by assumption)))))
             | exact .inl (.inl (.inl (.inl (.inr ⟨by omega, by assumption⟩))))
             | exact .inl (.inl (.inl (.inr (by omega))))
             | exact .inl (.inl (.inr (by omega)))
             | exact .inl (.inr (by omega))
             | exact .inr (by omega))
        | (refine ⟨i + 1, ⟨by omega, by omega, fun j hj => ?_⟩, by omega⟩
           by_cases e : j = i
           · subst e
             simp only [badS, Bool.or_eq_false_iff, Bool.and_eq_false_iff, Bool.not_eq_false', decide_eq_false_iff_not]
             exact ⟨⟨⟨⟨⟨by assumption, by first | (right; assumption) | (left; omega)⟩, by omega⟩, by omega⟩, by omega⟩, by omega⟩
           · exact hI j (by omega))
    · repeat' (first | with_reducible refine inw ?_ | simp (maxSteps := 900000) (disch := omega) only [go_sem, Nat.reduceEqDiff, ↓reduceIte, reduceCtorEq, Nat.reduceAdd, Nat.reduceMul, Int.reduceToNat, List.reduceReplicate, Nat.reduceLeDiff, Nat.reduceLT, Int.reduceLT, Int.reduceLE, Int.reduceEq] | with_reducible refine pickB_f ?_ | with_reducible refine giv_intro fun _h => ?_ | with_reducible refine alt_intro ?_ fun _h => ?_ | with_reducible refine pickD_nil ?_ | (with_reducible refine brc (fun _h => ?_) fun _h => ?_) <;> first | (exfalso; omega) | simp only [decide_eq_false _h] | simp only [(_h : (_ : Bool) = _)] | simp only [decide_eq_true _h] | skip)
      rw [sndErr_0 (by omega) (by assumption) fun j hj => hI j (by omega)]

end Go.Proofs.Ytpfoflhhbkjngaa.Ev

/- Words: what the small functions on texts and lists of texts compute. -/
import Derived.Test.YtpfoflhhbkjngaaZEvS
import Derived.Test.YtpfoflhhbkjngaaProg
import Derived.KernelRfl
set_option linter.unusedVariables false
set_option linter.unusedSimpArgs false
namespace Go.Proofs.Ytpfoflhhbkjngaa.Ev
open Go Go.Proofs
noncomputable abbrev P : Program := Try.prog
abbrev Str := ByteArray

def okByte (b : Int) : Bool := decide (33 ≤ b ∧ b ≤ 126 ∧ b ≠ 60 ∧ b ≠ 62)
def okText (s : Str) : Bool := decide (∀ i, i < s.size → okByte (byteAt s i) = true)
theorem okText_no {s : Str} {i : Nat} (h1 : i < s.size) (h2 : ¬ (33 ≤ byteAt s i ∧ byteAt s i ≤ 126 ∧ byteAt s i ≠ 60 ∧ byteAt s i ≠ 62)) : okText s = false :=
  decide_eq_false fun h => h2 (of_decide_eq_true (h i h1))
theorem okText_yes {s : Str} {i : Nat} (h1 : ¬ i < s.size) (h2 : ∀ j, j < i → okByte (byteAt s j) = true) : okText s = true :=
  decide_eq_true fun j hj => h2 j (by omega)
theorem okText_step {s : Str} {i : Nat} (h : ∀ j, j < i → okByte (byteAt s j) = true) (h2 : 33 ≤ byteAt s i ∧ byteAt s i ≤ 126 ∧ byteAt s i ≠ 60 ∧ byteAt s i ≠ 62) : ∀ j, j < i + 1 → okByte (byteAt s j) = true := fun j hj => by
  by_cases e : j = i
  · subst e; exact decide_eq_true h2
  · exact h j (by omega)
theorem size_zero {s : Str} : s = ⟨#[]⟩ ↔ s.size = 0 := by
  constructor
  · rintro rfl; rfl
  · intro h
    cases s with
    | mk d =>
      have : d.size = 0 := h
      rw [Array.size_eq_zero_iff] at this
      rw [this]

/-- ablaut/syms.isSymbol: 1 parameters, 0 captured -/
def s140 : SC := .seq (.reg [o1 2 (.mv (cB false))])
  (.seq (.seq (.reg [o1 4 (.mv (.t 0)),
     o1 5 (.lenS (.t 4)),
     o1 6 (.mv (cI 0))])
    (.block 0 (.loop (.seq (.reg [o1 7 (.bin .lss (.t 6) (.t 5))])
       (.seq (.cond (.t 7) (.skip) (.exit 0))
        (.seq (.block 1 (.seq (.reg [o1 8 (.mv (.t 6)),
            o1 3 (.mv (.t 8))])
           (.seq (.reg [o1 9 (.mv (.t 0)),
             o1 10 (.mv (.t 3)),
             o1 11 (.ixs (.t 9) (.t 10)),
             o1 12 (.bin .lss (.t 11) (.c (.int .u8 33))),
             o1 13 (.mv (.t 12)),
             oF 14 (.mv (.t 0)) 13,
             oF 15 (.mv (.t 3)) 13,
             oF 16 (.ixs (.t 14) (.t 15)) 13,
             oF 17 (.bin .gtr (.t 16) (.c (.int .u8 126))) 13,
             o1 18 (.pick (.t 13) (cB true) (.t 17)),
             o1 19 (.mv (.t 18)),
             oF 20 (.mv (.t 0)) 19,
             oF 21 (.mv (.t 3)) 19,
             oF 22 (.ixs (.t 20) (.t 21)) 19,
             oF 23 (.bin .eql (.t 22) (.c (.int .u8 60))) 19,
             o1 24 (.pick (.t 19) (cB true) (.t 23)),
             o1 25 (.mv (.t 24)),
             oF 26 (.mv (.t 0)) 25,
             oF 27 (.mv (.t 3)) 25,
             oF 28 (.ixs (.t 26) (.t 27)) 25,
             oF 29 (.bin .eql (.t 28) (.c (.int .u8 62))) 25,
             o1 30 (.pick (.t 25) (cB true) (.t 29))])
            (.cond (.t 30) (.seq (.reg [o1 2 (.mv (cB false))])
              (.ret)) (.skip)))))
         (.reg [o1 31 (.bin .add (.t 6) (cI 1)),
          o1 6 (.mv (.t 31))])))))))
   (.seq (.reg [o1 32 (.mv (.t 0)),
     o1 33 (.bin .neq (.t 32) (.c (.string ⟨#[]⟩))),
     o1 2 (.mv (.t 33))])
    (.ret)))
theorem s140_ok : lookF Try.prog 140 = some (s140, 34, [.tmp 2]) := by kernel_rfl
theorem isSymbol_ok (s : Str) (hs : s.size ≤ 4611686018427387904) : Fn P 140 [strA s] (boolA (okText s && decide (s.size ≠ 0))) := by
  (refine fn_look s140_ok (by simp) (by intro k; simp only [go_sem, Nat.reduceEqDiff, ↓reduceIte, reduceCtorEq, Nat.reduceAdd, Nat.reduceMul, Int.reduceToNat, List.reduceReplicate, Nat.reduceLeDiff, Nat.reduceLT, Int.reduceLT, Int.reduceLE, Int.reduceEq]) fun S hS => cwp_sound _ _ _ _ ?_; simp (maxSteps := 900000) (disch := omega) only [s140, go_sem, Nat.reduceEqDiff, ↓reduceIte, reduceCtorEq, Nat.reduceAdd, Nat.reduceMul, Int.reduceToNat, List.reduceReplicate, Nat.reduceLeDiff, Nat.reduceLT, Int.reduceLT, Int.reduceLE, Int.reduceEq])
  (refine loopC hS [0, 5] (by simp only [go_sem, Nat.reduceEqDiff, ↓reduceIte, reduceCtorEq, Nat.reduceAdd, Nat.reduceMul, Int.reduceToNat, List.reduceReplicate, Nat.reduceLeDiff, Nat.reduceLT, Int.reduceLT, Int.reduceLE, Int.reduceEq]; try rfl) (fun (i : Nat) => [(6, intA i)]) (fun (i : Nat) => []) (fun (i : Nat) => i ≤ s.size ∧ ∀ j, j < i → okByte (byteAt s j) = true) (fun (i : Nat) => s.size - i) (0) ?_ (by intro s; first | (simp only [List.length_cons, List.length_nil]; done) | rfl | (rcases s with ⟨_, _⟩; rfl) | (rcases s with ⟨_, _, _⟩; rfl) | (rcases s with ⟨_, _, _, _⟩; rfl) | (rcases s with ⟨_, _, _, _, _⟩; rfl)) ?_)
  · simp (maxSteps := 900000) (disch := omega) only [go_sem, Nat.reduceEqDiff, ↓reduceIte, reduceCtorEq, Nat.reduceAdd, Nat.reduceMul, Int.reduceToNat, List.reduceReplicate, Nat.reduceLeDiff, Nat.reduceLT, Int.reduceLT, Int.reduceLE, Int.reduceEq]; simp
  rintro i ⟨hi, hall⟩
  repeat' (first | with_reducible refine inw ?_ | simp (maxSteps := 900000) (disch := omega) only [go_sem, Nat.reduceEqDiff, ↓reduceIte, reduceCtorEq, Nat.reduceAdd, Nat.reduceMul, Int.reduceToNat, List.reduceReplicate, Nat.reduceLeDiff, Nat.reduceLT, Int.reduceLT, Int.reduceLE, Int.reduceEq] | with_reducible refine pickB_f ?_ | with_reducible refine giv_intro fun _h => ?_ | with_reducible refine alt_intro ?_ fun _h => ?_ | with_reducible refine pickD_nil ?_ | (with_reducible refine brc (fun _h => ?_) fun _h => ?_) <;> first | (exfalso; omega) | simp only [decide_eq_false _h] | simp only [(_h : (_ : Bool) = _)] | simp only [decide_eq_true _h] | skip)
  all_goals first
    | (refine ⟨i + 1, ⟨by omega, by omega, okText_step hall (by omega)⟩, by omega⟩)
    | (rw [okText_no (i := i) (by omega) (by omega)]; simp; done)
    | (rw [okText_yes (i := i) (by omega) hall]; simp [size_zero]; done)

/-- ablaut/ablautref01.IsSymbol: 1 parameters, 0 captured -/
def s109 : SC := .seq (.reg [o1 2 (.mv (cB false))])
  (.seq (.seq (.reg [o1 3 (.mv (cI 0))])
    (.block 0 (.loop (.seq (.seq (.reg [o1 4 (.mv (.t 3)),
         o1 5 (.mv (.t 0)),
         o1 6 (.lenS (.t 5)),
         o1 7 (.bin .lss (.t 4) (.t 6))])
        (.cond (.t 7) (.skip) (.exit 0)))
       (.seq (.block 1 (.seq (.reg [o1 10 (.mv (.t 0)),
           o1 11 (.mv (.t 3)),
           o1 12 (.ixs (.t 10) (.t 11)),
           o1 13 (.bin .lss (.t 12) (.c (.int .u8 33))),
           o1 14 (.mv (.t 13)),
           oF 15 (.mv (.t 0)) 14,
           oF 16 (.mv (.t 3)) 14,
           oF 17 (.ixs (.t 15) (.t 16)) 14,
           oF 18 (.bin .gtr (.t 17) (.c (.int .u8 126))) 14,
           o1 19 (.pick (.t 14) (cB true) (.t 18)),
           o1 20 (.mv (.t 19)),
           oF 21 (.mv (.t 0)) 20,
           oF 22 (.mv (.t 3)) 20,
           oF 23 (.ixs (.t 21) (.t 22)) 20,
           oF 24 (.bin .eql (.t 23) (.c (.int .u8 60))) 20,
           o1 25 (.pick (.t 20) (cB true) (.t 24)),
           o1 26 (.mv (.t 25)),
           oF 27 (.mv (.t 0)) 26,
           oF 28 (.mv (.t 3)) 26,
           oF 29 (.ixs (.t 27) (.t 28)) 26,
           oF 30 (.bin .eql (.t 29) (.c (.int .u8 62))) 26,
           o1 31 (.pick (.t 26) (cB true) (.t 30))])
          (.cond (.t 31) (.seq (.reg [o1 2 (.mv (cB false))])
            (.ret)) (.skip))))
        (.reg [o1 8 (.mv (.t 3)),
         o1 9 (.bin .add (.t 8) (cI 1)),
         o1 3 (.mv (.t 9))]))))))
   (.seq (.reg [o1 32 (.mv (.t 0)),
     o1 33 (.lenS (.t 32)),
     o1 34 (.bin .geq (.t 33) (cI 1)),
     o1 35 (.mv (.t 34)),
     oT 36 (.mv (.t 0)) 35,
     oT 37 (.lenS (.t 36)) 35,
     oT 38 (.bin .leq (.t 37) (cI 16)) 35,
     o1 39 (.pick (.t 35) (.t 38) (cB false)),
     o1 2 (.mv (.t 39))])
    (.ret)))
theorem s109_ok : lookF Try.prog 109 = some (s109, 40, [.tmp 2]) := by kernel_rfl
theorem IsSymbol_ok (s : Str) (hs : s.size ≤ 4611686018427387904) : Fn P 109 [strA s] (boolA (okText s && (decide (1 ≤ s.size) && decide (s.size ≤ 16)))) := by
  (refine fn_look s109_ok (by simp) (by intro k; simp only [go_sem, Nat.reduceEqDiff, ↓reduceIte, reduceCtorEq, Nat.reduceAdd, Nat.reduceMul, Int.reduceToNat, List.reduceReplicate, Nat.reduceLeDiff, Nat.reduceLT, Int.reduceLT, Int.reduceLE, Int.reduceEq]) fun S hS => cwp_sound _ _ _ _ ?_; simp (maxSteps := 900000) (disch := omega) only [s109, go_sem, Nat.reduceEqDiff, ↓reduceIte, reduceCtorEq, Nat.reduceAdd, Nat.reduceMul, Int.reduceToNat, List.reduceReplicate, Nat.reduceLeDiff, Nat.reduceLT, Int.reduceLT, Int.reduceLE, Int.reduceEq])
  (refine loopC hS [0] (by simp only [go_sem, Nat.reduceEqDiff, ↓reduceIte, reduceCtorEq, Nat.reduceAdd, Nat.reduceMul, Int.reduceToNat, List.reduceReplicate, Nat.reduceLeDiff, Nat.reduceLT, Int.reduceLT, Int.reduceLE, Int.reduceEq]; try rfl) (fun (i : Nat) => [(3, intA i)]) (fun (i : Nat) => []) (fun (i : Nat) => i ≤ s.size ∧ ∀ j, j < i → okByte (byteAt s j) = true) (fun (i : Nat) => s.size - i) (0) ?_ (by intro s; first | (simp only [List.length_cons, List.length_nil]; done) | rfl | (rcases s with ⟨_, _⟩; rfl) | (rcases s with ⟨_, _, _⟩; rfl) | (rcases s with ⟨_, _, _, _⟩; rfl) | (rcases s with ⟨_, _, _, _, _⟩; rfl)) ?_)
  · simp (maxSteps := 900000) (disch := omega) only [go_sem, Nat.reduceEqDiff, ↓reduceIte, reduceCtorEq, Nat.reduceAdd, Nat.reduceMul, Int.reduceToNat, List.reduceReplicate, Nat.reduceLeDiff, Nat.reduceLT, Int.reduceLT, Int.reduceLE, Int.reduceEq]; simp
  rintro i ⟨hi, hall⟩
  repeat' (first | with_reducible refine inw ?_ | simp (maxSteps := 900000) (disch := omega) only [go_sem, Nat.reduceEqDiff, ↓reduceIte, reduceCtorEq, Nat.reduceAdd, Nat.reduceMul, Int.reduceToNat, List.reduceReplicate, Nat.reduceLeDiff, Nat.reduceLT, Int.reduceLT, Int.reduceLE, Int.reduceEq] | with_reducible refine pickB_f ?_ | with_reducible refine giv_intro fun _h => ?_ | with_reducible refine alt_intro ?_ fun _h => ?_ | with_reducible refine pickD_nil ?_ | (with_reducible refine brc (fun _h => ?_) fun _h => ?_) <;> first | (exfalso; omega) | simp only [decide_eq_false _h] | simp only [(_h : (_ : Bool) = _)] | simp only [decide_eq_true _h] | skip)
  all_goals first
    | (refine ⟨i + 1, ⟨by omega, by omega, okText_step hall (by omega)⟩, by omega⟩)
    | (rw [okText_no (i := i) (by omega) (by omega)]; simp; done)
    | (rw [okText_yes (i := i) (by omega) hall, Bool.true_and, Bool.eq_iff_iff]; simp; omega)

/-- slices.IndexFunc[[]string,string]: 2 parameters, 0 captured -/
def s74 : SC := .seq (.reg [o1 4 (.mv (cI 0))])
  (.seq (.seq (.reg [o1 6 (.mv (.t 0)),
     o1 7 (.lenL (.t 6)),
     o1 8 (.mv (cI 0))])
    (.block 0 (.loop (.seq (.reg [o1 9 (.bin .lss (.t 8) (.t 7))])
       (.seq (.cond (.t 9) (.skip) (.exit 0))
        (.seq (.block 1 (.seq (.reg [o1 10 (.mv (.t 8)),
            o1 5 (.mv (.t 10))])
           (.seq (.reg [o1 11 (.mv (.t 1)),
             o1 12 (.mv (.t 0)),
             o1 13 (.mv (.t 5)),
             o1 14 (.iaddr 1 (.t 12) (.t 13)),
             o1 15 (.load none (.t 14)),
             o1 16 (.call (.t 11) [(.t 15)])])
            (.cond (.t 16) (.seq (.reg [o1 17 (.mv (.t 5)),
               o1 4 (.mv (.t 17))])
              (.ret)) (.skip)))))
         (.reg [o1 18 (.bin .add (.t 8) (cI 1)),
          o1 8 (.mv (.t 18))])))))))
   (.seq (.reg [o1 4 (.mv (cI (-1)))])
    (.ret)))
theorem s74_ok : lookF Try.prog 74 = some (s74, 19, [.tmp 4]) := by kernel_rfl
theorem IndexFunc_ok (l : List Str) (p : Str → Bool) (g : FuncId) (caps : List AV) (hc : ∀ c ∈ caps, AV.Still c) (hp : ∀ x, x ∈ l → Fn P g (strA x :: caps) (boolA (p x))) :
    Fn P 74 [sl l, .clo g caps] (intA (match l.findIdx? p with | some i => (i : Int) | none => -1)) := by
  have h1 := caps_seen hc
  have h2 := caps_bel hc
  (refine fn_look s74_ok (by simp) (by intro k; simp only [go_sem, Nat.reduceEqDiff, ↓reduceIte, reduceCtorEq, Nat.reduceAdd, Nat.reduceMul, Int.reduceToNat, List.reduceReplicate, Nat.reduceLeDiff, Nat.reduceLT, Int.reduceLT, Int.reduceLE, Int.reduceEq]) fun S hS => cwp_sound _ _ _ _ ?_; simp (maxSteps := 900000) (disch := omega) only [s74, go_sem, Nat.reduceEqDiff, ↓reduceIte, reduceCtorEq, Nat.reduceAdd, Nat.reduceMul, Int.reduceToNat, List.reduceReplicate, Nat.reduceLeDiff, Nat.reduceLT, Int.reduceLT, Int.reduceLE, Int.reduceEq])
  repeat' (first | with_reducible refine inw ?_ | simp (maxSteps := 900000) (disch := omega) only [go_sem, Nat.reduceEqDiff, ↓reduceIte, reduceCtorEq, Nat.reduceAdd, Nat.reduceMul, Int.reduceToNat, List.reduceReplicate, Nat.reduceLeDiff, Nat.reduceLT, Int.reduceLT, Int.reduceLE, Int.reduceEq, h1, h2] | with_reducible refine pickB_f ?_ | with_reducible refine giv_intro fun _h => ?_ | with_reducible refine alt_intro ?_ fun _h => ?_ | with_reducible refine pickD_nil ?_ | (with_reducible refine brc (fun _h => ?_) fun _h => ?_) <;> first | (exfalso; omega) | simp only [decide_eq_false _h] | simp only [(_h : (_ : Bool) = _)] | simp only [decide_eq_true _h] | skip)
  (refine loopC hS [0, 1, 7] (by simp only [go_sem, Nat.reduceEqDiff, ↓reduceIte, reduceCtorEq, Nat.reduceAdd, Nat.reduceMul, Int.reduceToNat, List.reduceReplicate, Nat.reduceLeDiff, Nat.reduceLT, Int.reduceLT, Int.reduceLE, Int.reduceEq]; try rfl) (fun (i : Nat) => [(8, intA i)]) (fun (i : Nat) => []) (fun (i : Nat) => i ≤ l.length ∧ l.findIdx? p = ((l.drop i).findIdx? p).map (· + i)) (fun (i : Nat) => l.length - i) (0) ?_ (by intro s; first | (simp only [List.length_cons, List.length_nil]; done) | rfl | (rcases s with ⟨_, _⟩; rfl) | (rcases s with ⟨_, _, _⟩; rfl) | (rcases s with ⟨_, _, _, _⟩; rfl) | (rcases s with ⟨_, _, _, _, _⟩; rfl)) ?_)
  · simp (maxSteps := 900000) (disch := omega) only [go_sem, Nat.reduceEqDiff, ↓reduceIte, reduceCtorEq, Nat.reduceAdd, Nat.reduceMul, Int.reduceToNat, List.reduceReplicate, Nat.reduceLeDiff, Nat.reduceLT, Int.reduceLT, Int.reduceLE, Int.reduceEq]; simp
  rintro i ⟨hi, hI⟩
  repeat' (first | with_reducible refine inw ?_ | simp (maxSteps := 900000) (disch := omega) only [go_sem, Nat.reduceEqDiff, ↓reduceIte, reduceCtorEq, Nat.reduceAdd, Nat.reduceMul, Int.reduceToNat, List.reduceReplicate, Nat.reduceLeDiff, Nat.reduceLT, Int.reduceLT, Int.reduceLE, Int.reduceEq, h1, h2] | (with_reducible apply call (hp _ (nth_mem (by assumption)))); (focus simp (maxSteps := 900000) (disch := omega) only [go_sem, Nat.reduceEqDiff, ↓reduceIte, reduceCtorEq, Nat.reduceAdd, Nat.reduceMul, Int.reduceToNat, List.reduceReplicate, Nat.reduceLeDiff, Nat.reduceLT, Int.reduceLT, Int.reduceLE, Int.reduceEq, h1, h2] <;> rfl) | with_reducible refine pickB_f ?_ | with_reducible refine giv_intro fun _h => ?_ | with_reducible refine alt_intro ?_ fun _h => ?_ | with_reducible refine pickD_nil ?_ | (with_reducible refine brc (fun _h => ?_) fun _h => ?_) <;> first | (exfalso; omega) | simp only [decide_eq_false _h] | simp only [(_h : (_ : Bool) = _)] | simp only [decide_eq_true _h] | skip)
  · rw [hI, nth_drop (by assumption)]
    simp_all [List.findIdx?_cons]
  · refine ⟨i + 1, ⟨by omega, by omega, ?_⟩, by omega⟩
    rw [hI, nth_drop (by assumption), List.findIdx?_cons]
    simp_all [Function.comp_def, Nat.add_comm, Nat.add_left_comm]
  · rw [hI, List.drop_eq_nil_of_le (by omega)]; rfl

theorem findIdx_any {l : List Str} {p : Str → Bool} : decide (0 ≤ (match l.findIdx? p with | some i => (i : Int) | none => -1)) = l.any p := by
  cases h : l.findIdx? p with
  | none => have := List.findIdx?_eq_none_iff.1 h; simp; simpa using this
  | some i =>
    obtain ⟨h1, h2, _⟩ := List.findIdx?_eq_some_iff_getElem.1 h
    have : l.any p = true := List.any_eq_true.2 ⟨l[i], List.getElem_mem h1, h2⟩
    rw [this]; simp

/-- slices.ContainsFunc[[]string,string]: 2 parameters, 0 captured -/
def s134 : SC := .seq (.reg [o1 4 (.mv (cB false))])
  (.seq (.reg [o1 5 (.mv (.t 0)),
    o1 6 (.mv (.t 1)),
    o1 7 (.call (.f 74) [(.t 5), (.t 6)]),
    o1 8 (.bin .geq (.t 7) (cI 0)),
    o1 4 (.mv (.t 8))])
   (.ret))
theorem s134_ok : lookF Try.prog 134 = some (s134, 9, [.tmp 4]) := by kernel_rfl
theorem ContainsFunc_ok (l : List Str) (p : Str → Bool) (g : FuncId) (caps : List AV) (hc : ∀ c ∈ caps, AV.Still c) (hp : ∀ x, x ∈ l → Fn P g (strA x :: caps) (boolA (p x))) :
    Fn P 134 [sl l, .clo g caps] (boolA (l.any p)) := by
  have h1 := caps_seen hc
  have h2 := caps_bel hc
  (refine fn_look s134_ok (by simp) (by intro k; simp only [go_sem, Nat.reduceEqDiff, ↓reduceIte, reduceCtorEq, Nat.reduceAdd, Nat.reduceMul, Int.reduceToNat, List.reduceReplicate, Nat.reduceLeDiff, Nat.reduceLT, Int.reduceLT, Int.reduceLE, Int.reduceEq]) fun S hS => cwp_sound _ _ _ _ ?_; simp (maxSteps := 900000) (disch := omega) only [s134, go_sem, Nat.reduceEqDiff, ↓reduceIte, reduceCtorEq, Nat.reduceAdd, Nat.reduceMul, Int.reduceToNat, List.reduceReplicate, Nat.reduceLeDiff, Nat.reduceLT, Int.reduceLT, Int.reduceLE, Int.reduceEq])
  repeat' (first | with_reducible refine inw ?_ | simp (maxSteps := 900000) (disch := omega) only [go_sem, Nat.reduceEqDiff, ↓reduceIte, reduceCtorEq, Nat.reduceAdd, Nat.reduceMul, Int.reduceToNat, List.reduceReplicate, Nat.reduceLeDiff, Nat.reduceLT, Int.reduceLT, Int.reduceLE, Int.reduceEq, h1, h2] | (with_reducible apply call (IndexFunc_ok l p g caps hc hp)); (focus simp (maxSteps := 900000) (disch := omega) only [go_sem, Nat.reduceEqDiff, ↓reduceIte, reduceCtorEq, Nat.reduceAdd, Nat.reduceMul, Int.reduceToNat, List.reduceReplicate, Nat.reduceLeDiff, Nat.reduceLT, Int.reduceLT, Int.reduceLE, Int.reduceEq, h1, h2] <;> rfl) | with_reducible refine pickB_f ?_ | with_reducible refine giv_intro fun _h => ?_ | with_reducible refine alt_intro ?_ fun _h => ?_ | with_reducible refine pickD_nil ?_ | (with_reducible refine brc (fun _h => ?_) fun _h => ?_) <;> first | (exfalso; omega) | simp only [decide_eq_false _h] | simp only [(_h : (_ : Bool) = _)] | simp only [decide_eq_true _h] | skip)
  exact findIdx_any

/-- ablaut/syms.isLong: 1 parameters, 0 captured -/
def s138 : SC := .seq (.reg [o1 2 (.mv (cB false))])
  (.seq (.reg [o1 3 (.mv (.t 0)),
    o1 4 (.lenS (.t 3)),
    o1 5 (.bin .gtr (.t 4) (cI 16)),
    o1 2 (.mv (.t 5))])
   (.ret))
theorem s138_ok : lookF Try.prog 138 = some (s138, 6, [.tmp 2]) := by kernel_rfl
theorem isLong_ok (s : Str) : Fn P 138 [strA s] (boolA (decide (16 < s.size))) := by
  (refine fn_look s138_ok (by simp) (by intro k; simp only [go_sem, Nat.reduceEqDiff, ↓reduceIte, reduceCtorEq, Nat.reduceAdd, Nat.reduceMul, Int.reduceToNat, List.reduceReplicate, Nat.reduceLeDiff, Nat.reduceLT, Int.reduceLT, Int.reduceLE, Int.reduceEq]) fun S hS => cwp_sound _ _ _ _ ?_; simp (maxSteps := 900000) (disch := omega) only [s138, go_sem, Nat.reduceEqDiff, ↓reduceIte, reduceCtorEq, Nat.reduceAdd, Nat.reduceMul, Int.reduceToNat, List.reduceReplicate, Nat.reduceLeDiff, Nat.reduceLT, Int.reduceLT, Int.reduceLE, Int.reduceEq])
  rw [Bool.eq_iff_iff]; simp; omega

/-- ablaut/syms.ValidateWord$1: 1 parameters, 0 captured -/
def s139 : SC := .seq (.reg [o1 2 (.mv (cB false))])
  (.seq (.reg [o1 3 (.mv (.t 0)),
    o1 4 (.call (.f 140) [(.t 3)]),
    o1 5 (.un .not (.t 4)),
    o1 2 (.mv (.t 5))])
   (.ret))
theorem s139_ok : lookF Try.prog 139 = some (s139, 6, [.tmp 2]) := by kernel_rfl
theorem ValidateWord1_ok (s : Str) (hs : s.size ≤ 4611686018427387904) : Fn P 139 [strA s] (boolA (!(okText s && decide (s.size ≠ 0)))) := by
  (refine fn_look s139_ok (by simp) (by intro k; simp only [go_sem, Nat.reduceEqDiff, ↓reduceIte, reduceCtorEq, Nat.reduceAdd, Nat.reduceMul, Int.reduceToNat, List.reduceReplicate, Nat.reduceLeDiff, Nat.reduceLT, Int.reduceLT, Int.reduceLE, Int.reduceEq]) fun S hS => cwp_sound _ _ _ _ ?_; simp (maxSteps := 900000) (disch := omega) only [s139, go_sem, Nat.reduceEqDiff, ↓reduceIte, reduceCtorEq, Nat.reduceAdd, Nat.reduceMul, Int.reduceToNat, List.reduceReplicate, Nat.reduceLeDiff, Nat.reduceLT, Int.reduceLT, Int.reduceLE, Int.reduceEq])
  repeat' (first | with_reducible refine inw ?_ | simp (maxSteps := 900000) (disch := omega) only [go_sem, Nat.reduceEqDiff, ↓reduceIte, reduceCtorEq, Nat.reduceAdd, Nat.reduceMul, Int.reduceToNat, List.reduceReplicate, Nat.reduceLeDiff, Nat.reduceLT, Int.reduceLT, Int.reduceLE, Int.reduceEq] | (with_reducible apply call (isSymbol_ok _ hs)); (focus simp (maxSteps := 900000) (disch := omega) only [go_sem, Nat.reduceEqDiff, ↓reduceIte, reduceCtorEq, Nat.reduceAdd, Nat.reduceMul, Int.reduceToNat, List.reduceReplicate, Nat.reduceLeDiff, Nat.reduceLT, Int.reduceLT, Int.reduceLE, Int.reduceEq] <;> rfl) | with_reducible refine pickB_f ?_ | with_reducible refine giv_intro fun _h => ?_ | with_reducible refine alt_intro ?_ fun _h => ?_ | with_reducible refine pickD_nil ?_ | (with_reducible refine brc (fun _h => ?_) fun _h => ?_) <;> first | (exfalso; omega) | simp only [decide_eq_false _h] | simp only [(_h : (_ : Bool) = _)] | simp only [decide_eq_true _h] | skip)

/-- The error of a word. -/
def wordErr (l : List Str) : Int :=
  if 60 < l.length ∨ l.any (fun s => decide (16 < s.size)) = true then 3 else if l.any (fun s => !(okText s && decide (s.size ≠ 0))) = true then 1 else 0
theorem no_long {l : List Str} (h : l.any (fun s => decide (16 < s.size)) = false) {x : Str} (hx : x ∈ l) : x.size ≤ 16 := by
  have := List.any_eq_false.1 h x hx
  simpa using this

/-- ablaut/syms.ValidateWord: 1 parameters, 0 captured -/
def s110 : SC := .seq (.reg [o1 2 (.mv (cI 0))])
  (.seq (.block 0 (.seq (.reg [o1 4 (.mv (.t 0)),
      o1 5 (.lenL (.t 4)),
      o1 6 (.bin .gtr (.t 5) (cI 60)),
      o1 7 (.mv (.t 6)),
      oF 8 (.mv (.t 0)) 7,
      oF 9 (.call (.f 134) [(.t 8), (.f 138)]) 7,
      o1 10 (.pick (.t 7) (cB true) (.t 9)),
      o1 3 (.mv (.t 10))])
     (.cond (.t 3) (.seq (.reg [o1 2 (.mv (cI 3))])
       (.ret)) (.seq (.reg [o1 12 (.mv (.t 0)),
        o1 13 (.call (.f 134) [(.t 12), (.f 139)]),
        o1 11 (.mv (.t 13))])
       (.cond (.t 11) (.seq (.reg [o1 2 (.mv (cI 1))])
         (.ret)) (.skip))))))
   (.seq (.reg [o1 2 (.mv (cI 0))])
    (.ret)))
theorem s110_ok : lookF Try.prog 110 = some (s110, 14, [.tmp 2]) := by kernel_rfl
theorem ValidateWord_ok (l : List Str) : Fn P 110 [sl l] (intA (wordErr l)) := by
  (refine fn_look s110_ok (by simp) (by intro k; simp only [go_sem, Nat.reduceEqDiff, ↓reduceIte, reduceCtorEq, Nat.reduceAdd, Nat.reduceMul, Int.reduceToNat, List.reduceReplicate, Nat.reduceLeDiff, Nat.reduceLT, Int.reduceLT, Int.reduceLE, Int.reduceEq]) fun S hS => cwp_sound _ _ _ _ ?_; simp (maxSteps := 900000) (disch := omega) only [s110, go_sem, Nat.reduceEqDiff, ↓reduceIte, reduceCtorEq, Nat.reduceAdd, Nat.reduceMul, Int.reduceToNat, List.reduceReplicate, Nat.reduceLeDiff, Nat.reduceLT, Int.reduceLT, Int.reduceLE, Int.reduceEq])
  repeat' (first | with_reducible refine inw ?_ | simp (maxSteps := 900000) (disch := omega) only [go_sem, Nat.reduceEqDiff, ↓reduceIte, reduceCtorEq, Nat.reduceAdd, Nat.reduceMul, Int.reduceToNat, List.reduceReplicate, Nat.reduceLeDiff, Nat.reduceLT, Int.reduceLT, Int.reduceLE, Int.reduceEq] | (with_reducible apply call (ContainsFunc_ok l (fun s => decide (16 < s.size)) _ [] (by simp) fun x _ => isLong_ok x)); (focus simp (maxSteps := 900000) (disch := omega) only [go_sem, Nat.reduceEqDiff, ↓reduceIte, reduceCtorEq, Nat.reduceAdd, Nat.reduceMul, Int.reduceToNat, List.reduceReplicate, Nat.reduceLeDiff, Nat.reduceLT, Int.reduceLT, Int.reduceLE, Int.reduceEq] <;> rfl) | (with_reducible apply call (ContainsFunc_ok l (fun s => !(okText s && decide (s.size ≠ 0))) _ [] (by simp) fun x hx => ValidateWord1_ok x (by have := no_long (by assumption) hx; omega))); (focus simp (maxSteps := 900000) (disch := omega) only [go_sem, Nat.reduceEqDiff, ↓reduceIte, reduceCtorEq, Nat.reduceAdd, Nat.reduceMul, Int.reduceToNat, List.reduceReplicate, Nat.reduceLeDiff, Nat.reduceLT, Int.reduceLT, Int.reduceLE, Int.reduceEq] <;> rfl) | with_reducible refine pickB_f ?_ | with_reducible refine giv_intro fun _h => ?_ | with_reducible refine alt_intro ?_ fun _h => ?_ | with_reducible refine pickD_nil ?_ | (with_reducible refine brc (fun _h => ?_) fun _h => ?_) <;> first | (exfalso; omega) | simp only [decide_eq_false _h] | simp only [(_h : (_ : Bool) = _)] | simp only [decide_eq_true _h] | skip)
  all_goals unfold wordErr
  · rw [if_pos (.inl (by omega))]
  · rw [if_pos (.inr (by assumption))]
  · rename_i h; rw [if_neg (by rw [h]; simp; omega), if_pos _h]
  · rename_i h; rw [if_neg (by rw [h]; simp; omega), if_neg (by rw [_h]; simp)]

/-- ablaut/ablautref01.anyLong: 1 parameters, 0 captured -/
def s120 : SC := .seq (.reg [o1 2 (.mv (cB false))])
  (.seq (.seq (.reg [o1 3 (.mv (cI 0))])
    (.block 0 (.loop (.seq (.seq (.reg [o1 4 (.mv (.t 3)),
         o1 5 (.mv (.t 0)),
         o1 6 (.lenL (.t 5)),
         o1 7 (.bin .lss (.t 4) (.t 6))])
        (.cond (.t 7) (.skip) (.exit 0)))
       (.seq (.block 1 (.seq (.reg [o1 10 (.mv (.t 0)),
           o1 11 (.mv (.t 3)),
           o1 12 (.iaddr 1 (.t 10) (.t 11)),
           o1 13 (.load none (.t 12)),
           o1 14 (.lenS (.t 13)),
           o1 15 (.bin .gtr (.t 14) (cI 16))])
          (.cond (.t 15) (.seq (.reg [o1 2 (.mv (cB true))])
            (.ret)) (.skip))))
        (.reg [o1 8 (.mv (.t 3)),
         o1 9 (.bin .add (.t 8) (cI 1)),
         o1 3 (.mv (.t 9))]))))))
   (.seq (.reg [o1 2 (.mv (cB false))])
    (.ret)))
theorem s120_ok : lookF Try.prog 120 = some (s120, 16, [.tmp 2]) := by kernel_rfl
theorem anyLong_ok (l : List Str) : Fn P 120 [sl l] (boolA (l.any (fun s => decide (16 < s.size)))) := by
  (refine fn_look s120_ok (by simp) (by intro k; simp only [go_sem, Nat.reduceEqDiff, ↓reduceIte, reduceCtorEq, Nat.reduceAdd, Nat.reduceMul, Int.reduceToNat, List.reduceReplicate, Nat.reduceLeDiff, Nat.reduceLT, Int.reduceLT, Int.reduceLE, Int.reduceEq]) fun S hS => cwp_sound _ _ _ _ ?_; simp (maxSteps := 900000) (disch := omega) only [s120, go_sem, Nat.reduceEqDiff, ↓reduceIte, reduceCtorEq, Nat.reduceAdd, Nat.reduceMul, Int.reduceToNat, List.reduceReplicate, Nat.reduceLeDiff, Nat.reduceLT, Int.reduceLT, Int.reduceLE, Int.reduceEq])
  (refine loopC hS [0] (by simp only [go_sem, Nat.reduceEqDiff, ↓reduceIte, reduceCtorEq, Nat.reduceAdd, Nat.reduceMul, Int.reduceToNat, List.reduceReplicate, Nat.reduceLeDiff, Nat.reduceLT, Int.reduceLT, Int.reduceLE, Int.reduceEq]; try rfl) (fun (i : Nat) => [(3, intA i)]) (fun (i : Nat) => []) (fun (i : Nat) => i ≤ l.length ∧ l.any (fun s => decide (16 < s.size)) = (l.drop i).any (fun s => decide (16 < s.size))) (fun (i : Nat) => l.length - i) (0) ?_ (by intro s; first | (simp only [List.length_cons, List.length_nil]; done) | rfl | (rcases s with ⟨_, _⟩; rfl) | (rcases s with ⟨_, _, _⟩; rfl) | (rcases s with ⟨_, _, _, _⟩; rfl) | (rcases s with ⟨_, _, _, _, _⟩; rfl)) ?_)
  · simp (maxSteps := 900000) (disch := omega) only [go_sem, Nat.reduceEqDiff, ↓reduceIte, reduceCtorEq, Nat.reduceAdd, Nat.reduceMul, Int.reduceToNat, List.reduceReplicate, Nat.reduceLeDiff, Nat.reduceLT, Int.reduceLT, Int.reduceLE, Int.reduceEq]; simp
  rintro i ⟨hi, hI⟩
  repeat' (first | with_reducible refine inw ?_ | simp (maxSteps := 900000) (disch := omega) only [go_sem, Nat.reduceEqDiff, ↓reduceIte, reduceCtorEq, Nat.reduceAdd, Nat.reduceMul, Int.reduceToNat, List.reduceReplicate, Nat.reduceLeDiff, Nat.reduceLT, Int.reduceLT, Int.reduceLE, Int.reduceEq] | with_reducible refine pickB_f ?_ | with_reducible refine giv_intro fun _h => ?_ | with_reducible refine alt_intro ?_ fun _h => ?_ | with_reducible refine pickD_nil ?_ | (with_reducible refine brc (fun _h => ?_) fun _h => ?_) <;> first | (exfalso; omega) | simp only [decide_eq_false _h] | simp only [(_h : (_ : Bool) = _)] | simp only [decide_eq_true _h] | skip)
  · rw [hI, nth_drop (by assumption), List.any_cons, decide_eq_true (by omega)]; rfl
  · refine ⟨i + 1, ⟨by omega, by omega, ?_⟩, by omega⟩
    rw [hI, nth_drop (by assumption), List.any_cons, decide_eq_false (by omega)]; rfl
  · rw [hI, List.drop_eq_nil_of_le (by omega)]; rfl

def goodS (s : Str) : Bool := okText s && (decide (1 ≤ s.size) && decide (s.size ≤ 16))
/-- ablaut/ablautref01.allSymbols: 1 parameters, 0 captured -/
def s121 : SC := .seq (.reg [o1 2 (.mv (cB false))])
  (.seq (.seq (.reg [o1 3 (.mv (cI 0))])
    (.block 0 (.loop (.seq (.seq (.reg [o1 4 (.mv (.t 3)),
         o1 5 (.mv (.t 0)),
         o1 6 (.lenL (.t 5)),
         o1 7 (.bin .lss (.t 4) (.t 6))])
        (.cond (.t 7) (.skip) (.exit 0)))
       (.seq (.block 1 (.seq (.reg [o1 10 (.mv (.t 0)),
           o1 11 (.mv (.t 3)),
           o1 12 (.iaddr 1 (.t 10) (.t 11)),
           o1 13 (.load none (.t 12)),
           o1 14 (.call (.f 109) [(.t 13)]),
           o1 15 (.un .not (.t 14))])
          (.cond (.t 15) (.seq (.reg [o1 2 (.mv (cB false))])
            (.ret)) (.skip))))
        (.reg [o1 8 (.mv (.t 3)),
         o1 9 (.bin .add (.t 8) (cI 1)),
         o1 3 (.mv (.t 9))]))))))
   (.seq (.reg [o1 2 (.mv (cB true))])
    (.ret)))
theorem s121_ok : lookF Try.prog 121 = some (s121, 16, [.tmp 2]) := by kernel_rfl
theorem allSymbols_ok (l : List Str) (hb : ∀ x, x ∈ l → x.size ≤ 4611686018427387904) : Fn P 121 [sl l] (boolA (l.all goodS)) := by
  (refine fn_look s121_ok (by simp) (by intro k; simp only [go_sem, Nat.reduceEqDiff, ↓reduceIte, reduceCtorEq, Nat.reduceAdd, Nat.reduceMul, Int.reduceToNat, List.reduceReplicate, Nat.reduceLeDiff, Nat.reduceLT, Int.reduceLT, Int.reduceLE, Int.reduceEq]) fun S hS => cwp_sound _ _ _ _ ?_; simp (maxSteps := 900000) (disch := omega) only [s121, go_sem, Nat.reduceEqDiff, ↓reduceIte, reduceCtorEq, Nat.reduceAdd, Nat.reduceMul, Int.reduceToNat, List.reduceReplicate, Nat.reduceLeDiff, Nat.reduceLT, Int.reduceLT, Int.reduceLE, Int.reduceEq])
  (refine loopC hS [0] (by simp only [go_sem, Nat.reduceEqDiff, ↓reduceIte, reduceCtorEq, Nat.reduceAdd, Nat.reduceMul, Int.reduceToNat, List.reduceReplicate, Nat.reduceLeDiff, Nat.reduceLT, Int.reduceLT, Int.reduceLE, Int.reduceEq]; try rfl) (fun (i : Nat) => [(3, intA i)]) (fun (i : Nat) => []) (fun (i : Nat) => i ≤ l.length ∧ l.all goodS = (l.drop i).all goodS) (fun (i : Nat) => l.length - i) (0) ?_ (by intro s; first | (simp only [List.length_cons, List.length_nil]; done) | rfl | (rcases s with ⟨_, _⟩; rfl) | (rcases s with ⟨_, _, _⟩; rfl) | (rcases s with ⟨_, _, _, _⟩; rfl) | (rcases s with ⟨_, _, _, _, _⟩; rfl)) ?_)
  · simp (maxSteps := 900000) (disch := omega) only [go_sem, Nat.reduceEqDiff, ↓reduceIte, reduceCtorEq, Nat.reduceAdd, Nat.reduceMul, Int.reduceToNat, List.reduceReplicate, Nat.reduceLeDiff, Nat.reduceLT, Int.reduceLT, Int.reduceLE, Int.reduceEq]; simp
  rintro i ⟨hi, hI⟩
  repeat' (first | with_reducible refine inw ?_ | simp (maxSteps := 900000) (disch := omega) only [go_sem, Nat.reduceEqDiff, ↓reduceIte, reduceCtorEq, Nat.reduceAdd, Nat.reduceMul, Int.reduceToNat, List.reduceReplicate, Nat.reduceLeDiff, Nat.reduceLT, Int.reduceLT, Int.reduceLE, Int.reduceEq] | (with_reducible apply call (IsSymbol_ok _ (hb _ (nth_mem (by assumption))))); (focus simp (maxSteps := 900000) (disch := omega) only [go_sem, Nat.reduceEqDiff, ↓reduceIte, reduceCtorEq, Nat.reduceAdd, Nat.reduceMul, Int.reduceToNat, List.reduceReplicate, Nat.reduceLeDiff, Nat.reduceLT, Int.reduceLT, Int.reduceLE, Int.reduceEq] <;> rfl) | with_reducible refine pickB_f ?_ | with_reducible refine giv_intro fun _h => ?_ | with_reducible refine alt_intro ?_ fun _h => ?_ | with_reducible refine pickD_nil ?_ | (with_reducible refine brc (fun _h => ?_) fun _h => ?_) <;> first | (exfalso; omega) | simp only [decide_eq_false _h] | simp only [(_h : (_ : Bool) = _)] | simp only [decide_eq_true _h] | skip)
  · rw [hI, nth_drop (by assumption), List.all_cons, goodS, _h]; rfl
  · refine ⟨i + 1, ⟨by omega, by omega, ?_⟩, by omega⟩
    rw [hI, nth_drop (by assumption), List.all_cons, goodS, _h]; rfl
  · rw [hI, List.drop_eq_nil_of_le (by omega)]; rfl

theorem all_mem {α : Type} {f g : α → Bool} : ∀ {l : List α}, (∀ x, x ∈ l → f x = g x) → l.all f = l.all g
  | [], _ => rfl
  | x :: xs, h => by simp only [List.all_cons]; rw [h x (by simp), all_mem fun y hy => h y (by simp [hy])]
/-- ablaut/ablautref01.ValidateWord: 1 parameters, 0 captured -/
def s83 : SC := .seq (.reg [o1 2 (.mv (cI 0))])
  (.seq (.seq (.reg [o1 3 (.mv (.t 0)),
     o1 4 (.lenL (.t 3)),
     o1 5 (.bin .gtr (.t 4) (cI 60)),
     o1 6 (.mv (.t 5)),
     oF 7 (.mv (.t 0)) 6,
     oF 8 (.call (.f 120) [(.t 7)]) 6,
     o1 9 (.pick (.t 6) (cB true) (.t 8))])
    (.cond (.t 9) (.seq (.reg [o1 2 (.mv (cI 3))])
      (.ret)) (.skip)))
   (.seq (.seq (.reg [o1 10 (.mv (.t 0)),
      o1 11 (.call (.f 121) [(.t 10)]),
      o1 12 (.un .not (.t 11))])
     (.cond (.t 12) (.seq (.reg [o1 2 (.mv (cI 1))])
       (.ret)) (.skip)))
    (.seq (.reg [o1 2 (.mv (cI 0))])
     (.ret))))
theorem s83_ok : lookF Try.prog 83 = some (s83, 13, [.tmp 2]) := by kernel_rfl
theorem refValidateWord_ok (l : List Str) : Fn P 83 [sl l] (intA (wordErr l)) := by
  have e : l.any (fun s => decide (16 < s.size)) = false → l.all goodS = !(l.any (fun s => !(okText s && decide (s.size ≠ 0)))) := fun h => by
    rw [List.not_any_eq_all_not]
    refine all_mem fun x hx => ?_
    have := no_long h hx
    rw [goodS, decide_eq_true this, Bool.and_true, Bool.not_not]
    congr 1
    simp only [decide_eq_decide]
    omega
  (refine fn_look s83_ok (by simp) (by intro k; simp only [go_sem, Nat.reduceEqDiff, ↓reduceIte, reduceCtorEq, Nat.reduceAdd, Nat.reduceMul, Int.reduceToNat, List.reduceReplicate, Nat.reduceLeDiff, Nat.reduceLT, Int.reduceLT, Int.reduceLE, Int.reduceEq]) fun S hS => cwp_sound _ _ _ _ ?_; simp (maxSteps := 900000) (disch := omega) only [s83, go_sem, Nat.reduceEqDiff, ↓reduceIte, reduceCtorEq, Nat.reduceAdd, Nat.reduceMul, Int.reduceToNat, List.reduceReplicate, Nat.reduceLeDiff, Nat.reduceLT, Int.reduceLT, Int.reduceLE, Int.reduceEq])
  repeat' (first | with_reducible refine inw ?_ | simp (maxSteps := 900000) (disch := omega) only [go_sem, Nat.reduceEqDiff, ↓reduceIte, reduceCtorEq, Nat.reduceAdd, Nat.reduceMul, Int.reduceToNat, List.reduceReplicate, Nat.reduceLeDiff, Nat.reduceLT, Int.reduceLT, Int.reduceLE, Int.reduceEq] | (with_reducible apply call (anyLong_ok l)); (focus simp (maxSteps := 900000) (disch := omega) only [go_sem, Nat.reduceEqDiff, ↓reduceIte, reduceCtorEq, Nat.reduceAdd, Nat.reduceMul, Int.reduceToNat, List.reduceReplicate, Nat.reduceLeDiff, Nat.reduceLT, Int.reduceLT, Int.reduceLE, Int.reduceEq] <;> rfl) | (with_reducible apply call (allSymbols_ok l (fun x hx => by have := no_long (by assumption) hx; omega))); (focus simp (maxSteps := 900000) (disch := omega) only [go_sem, Nat.reduceEqDiff, ↓reduceIte, reduceCtorEq, Nat.reduceAdd, Nat.reduceMul, Int.reduceToNat, List.reduceReplicate, Nat.reduceLeDiff, Nat.reduceLT, Int.reduceLT, Int.reduceLE, Int.reduceEq] <;> rfl) | with_reducible refine pickB_f ?_ | with_reducible refine giv_intro fun _h => ?_ | with_reducible refine alt_intro ?_ fun _h => ?_ | with_reducible refine pickD_nil ?_ | (with_reducible refine brc (fun _h => ?_) fun _h => ?_) <;> first | (exfalso; omega) | simp only [decide_eq_false _h] | simp only [(_h : (_ : Bool) = _)] | simp only [decide_eq_true _h] | skip)
  all_goals unfold wordErr
  · rw [if_pos (.inl (by omega))]
  · rw [if_pos (.inr (by assumption))]
  · rename_i h; rw [e h] at _h; rw [if_neg (by rw [h]; simp; omega), if_pos (by simpa using _h)]
  · rename_i h; rw [e h] at _h; rw [if_neg (by rw [h]; simp; omega), if_neg (by simpa using _h)]

/-- The first error of words. -/
def wordsErr : List (List Str) → Int
  | [] => 0
  | w :: ws => if wordErr w ≠ 0 then wordErr w else wordsErr ws

/-- ablaut/ablautref01.Words: 1 parameters, 0 captured -/
def s55 : SC := .seq (.reg [o1 2 (.mv (cI 0))])
  (.seq (.seq (.reg [o1 3 (.mv (cI 0))])
    (.block 0 (.loop (.seq (.seq (.reg [o1 5 (.mv (.t 3)),
         o1 6 (.mv (.t 0)),
         o1 7 (.lenL (.t 6)),
         o1 8 (.bin .lss (.t 5) (.t 7))])
        (.cond (.t 8) (.skip) (.exit 0)))
       (.seq (.block 1 (.seq (.reg [o1 11 (.mv (.t 0)),
           o1 12 (.mv (.t 3)),
           o1 13 (.iaddr 1 (.t 11) (.t 12)),
           o1 14 (.load none (.t 13)),
           o1 15 (.call (.f 83) [(.t 14)]),
           o1 4 (.mv (.t 15))])
          (.seq (.reg [o1 16 (.mv (.t 4)),
            o1 17 (.bin .neq (.t 16) (cI 0))])
           (.cond (.t 17) (.seq (.reg [o1 18 (.mv (.t 4)),
              o1 2 (.mv (.t 18))])
             (.ret)) (.skip)))))
        (.reg [o1 9 (.mv (.t 3)),
         o1 10 (.bin .add (.t 9) (cI 1)),
         o1 3 (.mv (.t 10))]))))))
   (.seq (.reg [o1 2 (.mv (cI 0))])
    (.ret)))
theorem s55_ok : lookF Try.prog 55 = some (s55, 19, [.tmp 2]) := by kernel_rfl
theorem Words_ok (l : List (List Str)) : Fn P 55 [sl l] (intA (wordsErr l)) := by
  (refine fn_look s55_ok (by simp) (by intro k; simp only [go_sem, Nat.reduceEqDiff, ↓reduceIte, reduceCtorEq, Nat.reduceAdd, Nat.reduceMul, Int.reduceToNat, List.reduceReplicate, Nat.reduceLeDiff, Nat.reduceLT, Int.reduceLT, Int.reduceLE, Int.reduceEq]) fun S hS => cwp_sound _ _ _ _ ?_; simp (maxSteps := 900000) (disch := omega) only [s55, go_sem, Nat.reduceEqDiff, ↓reduceIte, reduceCtorEq, Nat.reduceAdd, Nat.reduceMul, Int.reduceToNat, List.reduceReplicate, Nat.reduceLeDiff, Nat.reduceLT, Int.reduceLT, Int.reduceLE, Int.reduceEq])
  (refine loopC hS [0] (by simp only [go_sem, Nat.reduceEqDiff, ↓reduceIte, reduceCtorEq, Nat.reduceAdd, Nat.reduceMul, Int.reduceToNat, List.reduceReplicate, Nat.reduceLeDiff, Nat.reduceLT, Int.reduceLT, Int.reduceLE, Int.reduceEq]; try rfl) (fun (i : Nat) => [(3, intA i)]) (fun (i : Nat) => []) (fun (i : Nat) => i ≤ l.length ∧ wordsErr l = wordsErr (l.drop i)) (fun (i : Nat) => l.length - i) (0) ?_ (by intro s; first | (simp only [List.length_cons, List.length_nil]; done) | rfl | (rcases s with ⟨_, _⟩; rfl) | (rcases s with ⟨_, _, _⟩; rfl) | (rcases s with ⟨_, _, _, _⟩; rfl) | (rcases s with ⟨_, _, _, _, _⟩; rfl)) ?_)
  · simp (maxSteps := 900000) (disch := omega) only [go_sem, Nat.reduceEqDiff, ↓reduceIte, reduceCtorEq, Nat.reduceAdd, Nat.reduceMul, Int.reduceToNat, List.reduceReplicate, Nat.reduceLeDiff, Nat.reduceLT, Int.reduceLT, Int.reduceLE, Int.reduceEq]; simp
  rintro i ⟨hi, hI⟩
  repeat' (first | with_reducible refine inw ?_ | simp (maxSteps := 900000) (disch := omega) only [go_sem, Nat.reduceEqDiff, ↓reduceIte, reduceCtorEq, Nat.reduceAdd, Nat.reduceMul, Int.reduceToNat, List.reduceReplicate, Nat.reduceLeDiff, Nat.reduceLT, Int.reduceLT, Int.reduceLE, Int.reduceEq] | (with_reducible apply call (refValidateWord_ok _)); (focus simp (maxSteps := 900000) (disch := omega) only [go_sem, Nat.reduceEqDiff, ↓reduceIte, reduceCtorEq, Nat.reduceAdd, Nat.reduceMul, Int.reduceToNat, List.reduceReplicate, Nat.reduceLeDiff, Nat.reduceLT, Int.reduceLT, Int.reduceLE, Int.reduceEq] <;> rfl) | with_reducible refine pickB_f ?_ | with_reducible refine giv_intro fun _h => ?_ | with_reducible refine alt_intro ?_ fun _h => ?_ | with_reducible refine pickD_nil ?_ | (with_reducible refine brc (fun _h => ?_) fun _h => ?_) <;> first | (exfalso; omega) | simp only [decide_eq_false _h] | simp only [(_h : (_ : Bool) = _)] | simp only [decide_eq_true _h] | skip)
  · rw [hI, nth_drop (by assumption), wordsErr, if_pos (by assumption)]
  · refine ⟨i + 1, ⟨by omega, by omega, ?_⟩, by omega⟩
    rw [hI, nth_drop (by assumption), wordsErr, if_neg (by omega)]
  · rw [hI, List.drop_eq_nil_of_le (by omega)]; rfl

/-- ablaut/harm.words: 1 parameters, 0 captured -/
def s53 : SC := .seq (.reg [o1 2 (.mv (cI 0))])
  (.seq (.seq (.reg [o1 6 (.mv (.t 0)),
     o1 7 (.lenL (.t 6)),
     o1 8 (.mv (cI 0))])
    (.block 0 (.loop (.seq (.reg [o1 9 (.bin .lss (.t 8) (.t 7))])
       (.seq (.cond (.t 9) (.skip) (.exit 0))
        (.seq (.block 1 (.seq (.reg [o1 10 (.iaddr 1 (.t 6) (.t 8)),
            o1 11 (.load none (.t 10)),
            o1 4 (.mv (.t 11))])
           (.seq (.reg [o1 12 (.mv (.t 4)),
             o1 13 (.call (.f 110) [(.t 12)]),
             o1 5 (.mv (.t 13))])
            (.seq (.reg [o1 14 (.mv (.t 5)),
              o1 15 (.bin .neq (.t 14) (cI 0))])
             (.cond (.t 15) (.seq (.reg [o1 16 (.mv (.t 5)),
                o1 2 (.mv (.t 16))])
               (.ret)) (.skip))))))
         (.reg [o1 17 (.bin .add (.t 8) (cI 1)),
          o1 8 (.mv (.t 17))])))))))
   (.seq (.reg [o1 2 (.mv (cI 0))])
    (.ret)))
theorem s53_ok : lookF Try.prog 53 = some (s53, 18, [.tmp 2]) := by kernel_rfl
theorem words_ok (l : List (List Str)) : Fn P 53 [sl l] (intA (wordsErr l)) := by
  (refine fn_look s53_ok (by simp) (by intro k; simp only [go_sem, Nat.reduceEqDiff, ↓reduceIte, reduceCtorEq, Nat.reduceAdd, Nat.reduceMul, Int.reduceToNat, List.reduceReplicate, Nat.reduceLeDiff, Nat.reduceLT, Int.reduceLT, Int.reduceLE, Int.reduceEq]) fun S hS => cwp_sound _ _ _ _ ?_; simp (maxSteps := 900000) (disch := omega) only [s53, go_sem, Nat.reduceEqDiff, ↓reduceIte, reduceCtorEq, Nat.reduceAdd, Nat.reduceMul, Int.reduceToNat, List.reduceReplicate, Nat.reduceLeDiff, Nat.reduceLT, Int.reduceLT, Int.reduceLE, Int.reduceEq])
  repeat' (first | with_reducible refine inw ?_ | simp (maxSteps := 900000) (disch := omega) only [go_sem, Nat.reduceEqDiff, ↓reduceIte, reduceCtorEq, Nat.reduceAdd, Nat.reduceMul, Int.reduceToNat, List.reduceReplicate, Nat.reduceLeDiff, Nat.reduceLT, Int.reduceLT, Int.reduceLE, Int.reduceEq] | with_reducible refine pickB_f ?_ | with_reducible refine giv_intro fun _h => ?_ | with_reducible refine alt_intro ?_ fun _h => ?_ | with_reducible refine pickD_nil ?_ | (with_reducible refine brc (fun _h => ?_) fun _h => ?_) <;> first | (exfalso; omega) | simp only [decide_eq_false _h] | simp only [(_h : (_ : Bool) = _)] | simp only [decide_eq_true _h] | skip)
  (refine loopC hS [6, 7] (by simp only [go_sem, Nat.reduceEqDiff, ↓reduceIte, reduceCtorEq, Nat.reduceAdd, Nat.reduceMul, Int.reduceToNat, List.reduceReplicate, Nat.reduceLeDiff, Nat.reduceLT, Int.reduceLT, Int.reduceLE, Int.reduceEq]; try rfl) (fun (i : Nat) => [(8, intA i)]) (fun (i : Nat) => []) (fun (i : Nat) => i ≤ l.length ∧ wordsErr l = wordsErr (l.drop i)) (fun (i : Nat) => l.length - i) (0) ?_ (by intro s; first | (simp only [List.length_cons, List.length_nil]; done) | rfl | (rcases s with ⟨_, _⟩; rfl) | (rcases s with ⟨_, _, _⟩; rfl) | (rcases s with ⟨_, _, _, _⟩; rfl) | (rcases s with ⟨_, _, _, _, _⟩; rfl)) ?_)
  · simp (maxSteps := 900000) (disch := omega) only [go_sem, Nat.reduceEqDiff, ↓reduceIte, reduceCtorEq, Nat.reduceAdd, Nat.reduceMul, Int.reduceToNat, List.reduceReplicate, Nat.reduceLeDiff, Nat.reduceLT, Int.reduceLT, Int.reduceLE, Int.reduceEq]; simp
  rintro i ⟨hi, hI⟩
  repeat' (first | with_reducible refine inw ?_ | simp (maxSteps := 900000) (disch := omega) only [go_sem, Nat.reduceEqDiff, ↓reduceIte, reduceCtorEq, Nat.reduceAdd, Nat.reduceMul, Int.reduceToNat, List.reduceReplicate, Nat.reduceLeDiff, Nat.reduceLT, Int.reduceLT, Int.reduceLE, Int.reduceEq] | (with_reducible apply call (ValidateWord_ok _)); (focus simp (maxSteps := 900000) (disch := omega) only [go_sem, Nat.reduceEqDiff, ↓reduceIte, reduceCtorEq, Nat.reduceAdd, Nat.reduceMul, Int.reduceToNat, List.reduceReplicate, Nat.reduceLeDiff, Nat.reduceLT, Int.reduceLT, Int.reduceLE, Int.reduceEq] <;> rfl) | with_reducible refine pickB_f ?_ | with_reducible refine giv_intro fun _h => ?_ | with_reducible refine alt_intro ?_ fun _h => ?_ | with_reducible refine pickD_nil ?_ | (with_reducible refine brc (fun _h => ?_) fun _h => ?_) <;> first | (exfalso; omega) | simp only [decide_eq_false _h] | simp only [(_h : (_ : Bool) = _)] | simp only [decide_eq_true _h] | skip)
  · rw [hI, nth_drop (by assumption), wordsErr, if_pos (by assumption)]
  · refine ⟨i + 1, ⟨by omega, by omega, ?_⟩, by omega⟩
    rw [hI, nth_drop (by assumption), wordsErr, if_neg (by omega)]
  · rw [hI, List.drop_eq_nil_of_le (by omega)]; rfl

theorem drop_end {α : Type} {l : List α} {i : Nat} (h : l.length ≤ i) : l.drop i = [] := List.drop_eq_nil_of_le h
theorem drop_cons_eq {α : Type} {k : Nat} [Enc α k] {a b : List α} {i : Nat} (ha : i < a.length) (hb : i < b.length) : (a.drop i = b.drop i) = (nth a i = nth b i ∧ a.drop (i + 1) = b.drop (i + 1)) := by
  rw [nth_drop ha, nth_drop hb]; simp
/-- slices.Equal[[]string,string]: 2 parameters, 0 captured -/
def s59 : SC := .seq (.reg [o1 4 (.mv (cB false))])
  (.seq (.seq (.reg [o1 6 (.mv (.t 0)),
     o1 7 (.lenL (.t 6)),
     o1 8 (.mv (.t 1)),
     o1 9 (.lenL (.t 8)),
     o1 10 (.bin .neq (.t 7) (.t 9))])
    (.cond (.t 10) (.seq (.reg [o1 4 (.mv (cB false))])
      (.ret)) (.skip)))
   (.seq (.seq (.reg [o1 11 (.mv (.t 0)),
      o1 12 (.lenL (.t 11)),
      o1 13 (.mv (cI 0))])
     (.block 0 (.loop (.seq (.reg [o1 14 (.bin .lss (.t 13) (.t 12))])
        (.seq (.cond (.t 14) (.skip) (.exit 0))
         (.seq (.block 1 (.seq (.reg [o1 15 (.mv (.t 13)),
             o1 5 (.mv (.t 15))])
            (.seq (.regD [o1 16 (.mv (.t 0)),
              o1 17 (.mv (.t 5)),
              o1 18 (.iaddr 1 (.t 16) (.t 17)),
              o1 19 (.load none (.t 18)),
              o1 20 (.mv (.t 1)),
              o1 21 (.mv (.t 5)),
              o1 22 (.iaddr 1 (.t 20) (.t 21)),
              o1 23 (.load none (.t 22)),
              o1 24 (.bin .neq (.t 19) (.t 23))])
             (.cond (.t 24) (.seq (.reg [o1 4 (.mv (cB false))])
               (.ret)) (.skip)))))
          (.reg [o1 25 (.bin .add (.t 13) (cI 1)),
           o1 13 (.mv (.t 25))])))))))
    (.seq (.reg [o1 4 (.mv (cB true))])
     (.ret))))
theorem s59_ok : lookF Try.prog 59 = some (s59, 26, [.tmp 4]) := by kernel_rfl
theorem Equal_ok (a b : List Str) : Fn P 59 [sl a, sl b] (boolA (decide (a = b))) := by
  (refine fn_look s59_ok (by simp) (by intro k; simp only [go_sem, Nat.reduceEqDiff, ↓reduceIte, reduceCtorEq, Nat.reduceAdd, Nat.reduceMul, Int.reduceToNat, List.reduceReplicate, Nat.reduceLeDiff, Nat.reduceLT, Int.reduceLT, Int.reduceLE, Int.reduceEq]) fun S hS => cwp_sound _ _ _ _ ?_; simp (maxSteps := 900000) (disch := omega) only [s59, go_sem, Nat.reduceEqDiff, ↓reduceIte, reduceCtorEq, Nat.reduceAdd, Nat.reduceMul, Int.reduceToNat, List.reduceReplicate, Nat.reduceLeDiff, Nat.reduceLT, Int.reduceLT, Int.reduceLE, Int.reduceEq])
  repeat' (first | with_reducible refine inw ?_ | simp (maxSteps := 900000) (disch := omega) only [go_sem, Nat.reduceEqDiff, ↓reduceIte, reduceCtorEq, Nat.reduceAdd, Nat.reduceMul, Int.reduceToNat, List.reduceReplicate, Nat.reduceLeDiff, Nat.reduceLT, Int.reduceLT, Int.reduceLE, Int.reduceEq] | with_reducible refine pickB_f ?_ | with_reducible refine giv_intro fun _h => ?_ | with_reducible refine alt_intro ?_ fun _h => ?_ | with_reducible refine pickD_nil ?_ | (with_reducible refine brc (fun _h => ?_) fun _h => ?_) <;> first | (exfalso; omega) | simp only [decide_eq_false _h] | simp only [(_h : (_ : Bool) = _)] | simp only [decide_eq_true _h] | skip)
  · exact (decide_eq_false (by rintro rfl; exact _h rfl)).symm
  (refine loopC hS [0, 1, 12] (by simp only [go_sem, Nat.reduceEqDiff, ↓reduceIte, reduceCtorEq, Nat.reduceAdd, Nat.reduceMul, Int.reduceToNat, List.reduceReplicate, Nat.reduceLeDiff, Nat.reduceLT, Int.reduceLT, Int.reduceLE, Int.reduceEq]; try rfl) (fun (i : Nat) => [(13, intA i)]) (fun (i : Nat) => []) (fun (i : Nat) => i ≤ a.length ∧ (a = b ↔ a.drop i = b.drop i)) (fun (i : Nat) => a.length - i) (0) ?_ (by intro s; first | (simp only [List.length_cons, List.length_nil]; done) | rfl | (rcases s with ⟨_, _⟩; rfl) | (rcases s with ⟨_, _, _⟩; rfl) | (rcases s with ⟨_, _, _, _⟩; rfl) | (rcases s with ⟨_, _, _, _, _⟩; rfl)) ?_)
  · simp (maxSteps := 900000) (disch := omega) only [go_sem, Nat.reduceEqDiff, ↓reduceIte, reduceCtorEq, Nat.reduceAdd, Nat.reduceMul, Int.reduceToNat, List.reduceReplicate, Nat.reduceLeDiff, Nat.reduceLT, Int.reduceLT, Int.reduceLE, Int.reduceEq]; simp
  rintro i ⟨hi, hI⟩
  repeat' (first | with_reducible refine inw ?_ | simp (maxSteps := 900000) (disch := omega) only [go_sem, Nat.reduceEqDiff, ↓reduceIte, reduceCtorEq, Nat.reduceAdd, Nat.reduceMul, Int.reduceToNat, List.reduceReplicate, Nat.reduceLeDiff, Nat.reduceLT, Int.reduceLT, Int.reduceLE, Int.reduceEq] | with_reducible refine pickB_f ?_ | with_reducible refine giv_intro fun _h => ?_ | with_reducible refine alt_intro ?_ fun _h => ?_ | with_reducible refine pickD_nil ?_ | (with_reducible refine brc (fun _h => ?_) fun _h => ?_) <;> first | (exfalso; omega) | simp only [decide_eq_false _h] | simp only [(_h : (_ : Bool) = _)] | simp only [decide_eq_true _h] | skip)
  · rename_i h1 h2; exact (decide_eq_false (by rw [hI, drop_cons_eq h2 (by omega)]; exact fun h => _h h.1)).symm
  · rename_i h1 h2; refine ⟨i + 1, ⟨by omega, by omega, ?_⟩, by omega⟩
    rw [hI, drop_cons_eq h2 (by omega)]; simp [_h]
  · exact (decide_eq_true (by rw [hI, List.drop_eq_nil_of_le (by omega), List.drop_eq_nil_of_le (by omega)])).symm

/-- The order of lists of texts: texts by bytes, a begin first. -/
def orderL : List Str → List Str → Int
  | [], [] => 0
  | [], _ :: _ => -1
  | _ :: _, [] => 1
  | a :: x, b :: y => if ltB a b then -1 else if ltB b a then 1 else orderL x y
/-- ablaut/ablautref01.Order: 2 parameters, 0 captured -/
def s61 : SC := .seq (.reg [o1 4 (.mv (cI 0))])
  (.seq (.seq (.reg [o1 5 (.mv (cI 0))])
    (.block 0 (.loop (.seq (.seq (.reg [o1 6 (.mv (.t 5)),
         o1 7 (.mv (.t 0)),
         o1 8 (.lenL (.t 7)),
         o1 9 (.bin .lss (.t 6) (.t 8)),
         o1 10 (.mv (.t 9)),
         oT 11 (.mv (.t 5)) 10,
         oT 12 (.mv (.t 1)) 10,
         oT 13 (.lenL (.t 12)) 10,
         oT 14 (.bin .lss (.t 11) (.t 13)) 10,
         o1 15 (.pick (.t 10) (.t 14) (cB false))])
        (.cond (.t 15) (.skip) (.exit 0)))
       (.seq (.block 1 (.seq (.seq (.regD [o1 18 (.mv (.t 0)),
            o1 19 (.mv (.t 5)),
            o1 20 (.iaddr 1 (.t 18) (.t 19)),
            o1 21 (.load none (.t 20)),
            o1 22 (.mv (.t 1)),
            o1 23 (.mv (.t 5)),
            o1 24 (.iaddr 1 (.t 22) (.t 23)),
            o1 25 (.load none (.t 24)),
            o1 26 (.bin .lss (.t 21) (.t 25))])
           (.cond (.t 26) (.seq (.reg [o1 4 (.mv (cI (-1)))])
             (.ret)) (.skip)))
          (.seq (.regD [o1 27 (.mv (.t 0)),
            o1 28 (.mv (.t 5)),
            o1 29 (.iaddr 1 (.t 27) (.t 28)),
            o1 30 (.load none (.t 29)),
            o1 31 (.mv (.t 1)),
            o1 32 (.mv (.t 5)),
            o1 33 (.iaddr 1 (.t 31) (.t 32)),
            o1 34 (.load none (.t 33)),
            o1 35 (.bin .gtr (.t 30) (.t 34))])
           (.cond (.t 35) (.seq (.reg [o1 4 (.mv (cI 1))])
             (.ret)) (.skip)))))
        (.reg [o1 16 (.mv (.t 5)),
         o1 17 (.bin .add (.t 16) (cI 1)),
         o1 5 (.mv (.t 17))]))))))
   (.seq (.block 2 (.seq (.reg [o1 37 (.mv (.t 0)),
       o1 38 (.lenL (.t 37)),
       o1 39 (.mv (.t 1)),
       o1 40 (.lenL (.t 39)),
       o1 41 (.bin .lss (.t 38) (.t 40)),
       o1 36 (.mv (.t 41))])
      (.cond (.t 36) (.seq (.reg [o1 4 (.mv (cI (-1)))])
        (.ret)) (.seq (.reg [o1 43 (.mv (.t 0)),
         o1 44 (.lenL (.t 43)),
         o1 45 (.mv (.t 1)),
         o1 46 (.lenL (.t 45)),
         o1 47 (.bin .gtr (.t 44) (.t 46)),
         o1 42 (.mv (.t 47))])
        (.cond (.t 42) (.seq (.reg [o1 4 (.mv (cI 1))])
          (.ret)) (.skip))))))
    (.seq (.reg [o1 4 (.mv (cI 0))])
     (.ret))))
theorem s61_ok : lookF Try.prog 61 = some (s61, 48, [.tmp 4]) := by kernel_rfl
theorem Order_ok (a b : List Str) : Fn P 61 [sl a, sl b] (intA (orderL a b)) := by
  (refine fn_look s61_ok (by simp) (by intro k; simp only [go_sem, Nat.reduceEqDiff, ↓reduceIte, reduceCtorEq, Nat.reduceAdd, Nat.reduceMul, Int.reduceToNat, List.reduceReplicate, Nat.reduceLeDiff, Nat.reduceLT, Int.reduceLT, Int.reduceLE, Int.reduceEq]) fun S hS => cwp_sound _ _ _ _ ?_; simp (maxSteps := 900000) (disch := omega) only [s61, go_sem, Nat.reduceEqDiff, ↓reduceIte, reduceCtorEq, Nat.reduceAdd, Nat.reduceMul, Int.reduceToNat, List.reduceReplicate, Nat.reduceLeDiff, Nat.reduceLT, Int.reduceLT, Int.reduceLE, Int.reduceEq])
  (refine loopC hS [0, 1] (by simp only [go_sem, Nat.reduceEqDiff, ↓reduceIte, reduceCtorEq, Nat.reduceAdd, Nat.reduceMul, Int.reduceToNat, List.reduceReplicate, Nat.reduceLeDiff, Nat.reduceLT, Int.reduceLT, Int.reduceLE, Int.reduceEq]; try rfl) (fun (i : Nat) => [(5, intA i)]) (fun (i : Nat) => []) (fun (i : Nat) => i ≤ a.length ∧ i ≤ b.length ∧ orderL a b = orderL (a.drop i) (b.drop i)) (fun (i : Nat) => a.length - i) (0) ?_ (by intro s; first | (simp only [List.length_cons, List.length_nil]; done) | rfl | (rcases s with ⟨_, _⟩; rfl) | (rcases s with ⟨_, _, _⟩; rfl) | (rcases s with ⟨_, _, _, _⟩; rfl) | (rcases s with ⟨_, _, _, _, _⟩; rfl)) ?_)
  · simp (maxSteps := 900000) (disch := omega) only [go_sem, Nat.reduceEqDiff, ↓reduceIte, reduceCtorEq, Nat.reduceAdd, Nat.reduceMul, Int.reduceToNat, List.reduceReplicate, Nat.reduceLeDiff, Nat.reduceLT, Int.reduceLT, Int.reduceLE, Int.reduceEq]; simp
  rintro i ⟨hi, hi2, hI⟩
  repeat' (first | with_reducible refine inw ?_ | simp (maxSteps := 900000) (disch := omega) only [go_sem, Nat.reduceEqDiff, ↓reduceIte, reduceCtorEq, Nat.reduceAdd, Nat.reduceMul, Int.reduceToNat, List.reduceReplicate, Nat.reduceLeDiff, Nat.reduceLT, Int.reduceLT, Int.reduceLE, Int.reduceEq] | with_reducible refine pickB_f ?_ | with_reducible refine giv_intro fun _h => ?_ | with_reducible refine alt_intro ?_ fun _h => ?_ | with_reducible refine pickD_nil ?_ | (with_reducible refine brc (fun _h => ?_) fun _h => ?_) <;> first | (exfalso; omega) | simp only [decide_eq_false _h] | simp only [(_h : (_ : Bool) = _)] | simp only [decide_eq_true _h] | skip)
  all_goals rw [hI]
  · rw [nth_drop (l := a) (i := i) (by omega), nth_drop (l := b) (i := i) (by omega), orderL, if_pos _h]
  · rename_i h; rw [nth_drop (l := a) (i := i) (by omega), nth_drop (l := b) (i := i) (by omega), orderL, if_neg (by rw [h]; simp), if_pos _h]
  · rename_i h; refine ⟨i + 1, ⟨by omega, by omega, by omega, ?_⟩, by omega⟩
    rw [nth_drop (l := a) (i := i) (by omega), nth_drop (l := b) (i := i) (by omega), orderL, if_neg (by rw [h]; simp), if_neg (by rw [_h]; simp)]
  all_goals first
    | omega
    | (rw [drop_end (l := a) (i := i) (by omega), drop_end (l := b) (i := i) (by omega)]; rfl)
    | (rw [drop_end (l := a) (i := i) (by omega), nth_drop (l := b) (i := i) (by omega)]; rfl)
    | (rw [drop_end (l := b) (i := i) (by omega), nth_drop (l := a) (i := i) (by omega)]; rfl)

theorem orderL_zero {a b : List Str} : orderL a b = 0 ↔ a = b := by
  induction a generalizing b with
  | nil => cases b <;> simp [orderL]
  | cons x a ih =>
    cases b with
    | nil => simp [orderL]
    | cons y b =>
      simp only [orderL]
      by_cases h1 : ltB x y = true
      · rw [if_pos h1]; simp; rintro rfl; rw [ltB_irrefl] at h1; cases h1
      · rw [if_neg h1]
        by_cases h2 : ltB y x = true
        · rw [if_pos h2]; simp; rintro rfl; rw [ltB_irrefl] at h2; cases h2
        · rw [if_neg h2, ih]
          have := ltB_tri (by simpa using h1) (by simpa using h2)
          simp [this]
/-- ablaut/ablautref01.Same: 2 parameters, 0 captured -/
def s22 : SC := .seq (.reg [o1 4 (.mv (cB false))])
  (.seq (.reg [o1 5 (.mv (.t 0)),
    o1 6 (.mv (.t 1)),
    o1 7 (.call (.f 61) [(.t 5), (.t 6)]),
    o1 8 (.bin .eql (.t 7) (cI 0)),
    o1 4 (.mv (.t 8))])
   (.ret))
theorem s22_ok : lookF Try.prog 22 = some (s22, 9, [.tmp 4]) := by kernel_rfl
theorem Same_ok (a b : List Str) : Fn P 22 [sl a, sl b] (boolA (decide (a = b))) := by
  (refine fn_look s22_ok (by simp) (by intro k; simp only [go_sem, Nat.reduceEqDiff, ↓reduceIte, reduceCtorEq, Nat.reduceAdd, Nat.reduceMul, Int.reduceToNat, List.reduceReplicate, Nat.reduceLeDiff, Nat.reduceLT, Int.reduceLT, Int.reduceLE, Int.reduceEq]) fun S hS => cwp_sound _ _ _ _ ?_; simp (maxSteps := 900000) (disch := omega) only [s22, go_sem, Nat.reduceEqDiff, ↓reduceIte, reduceCtorEq, Nat.reduceAdd, Nat.reduceMul, Int.reduceToNat, List.reduceReplicate, Nat.reduceLeDiff, Nat.reduceLT, Int.reduceLT, Int.reduceLE, Int.reduceEq])
  repeat' (first | with_reducible refine inw ?_ | simp (maxSteps := 900000) (disch := omega) only [go_sem, Nat.reduceEqDiff, ↓reduceIte, reduceCtorEq, Nat.reduceAdd, Nat.reduceMul, Int.reduceToNat, List.reduceReplicate, Nat.reduceLeDiff, Nat.reduceLT, Int.reduceLT, Int.reduceLE, Int.reduceEq] | (with_reducible apply call (Order_ok a b)); (focus simp (maxSteps := 900000) (disch := omega) only [go_sem, Nat.reduceEqDiff, ↓reduceIte, reduceCtorEq, Nat.reduceAdd, Nat.reduceMul, Int.reduceToNat, List.reduceReplicate, Nat.reduceLeDiff, Nat.reduceLT, Int.reduceLT, Int.reduceLE, Int.reduceEq] <;> rfl) | with_reducible refine pickB_f ?_ | with_reducible refine giv_intro fun _h => ?_ | with_reducible refine alt_intro ?_ fun _h => ?_ | with_reducible refine pickD_nil ?_ | (with_reducible refine brc (fun _h => ?_) fun _h => ?_) <;> first | (exfalso; omega) | simp only [decide_eq_false _h] | simp only [(_h : (_ : Bool) = _)] | simp only [decide_eq_true _h] | skip)
  simp only [decide_eq_decide, orderL_zero]
/-- The order of words: shorter ones first. -/
def compL (a b : List Str) : Int := if a.length < b.length then -1 else if b.length < a.length then 1 else orderL a b
/-- ablaut/ablautref01.Compare: 2 parameters, 0 captured -/
def s24 : SC := .seq (.reg [o1 4 (.mv (cI 0))])
  (.seq (.seq (.reg [o1 5 (.mv (.t 0)),
     o1 6 (.lenL (.t 5)),
     o1 7 (.mv (.t 1)),
     o1 8 (.lenL (.t 7)),
     o1 9 (.bin .lss (.t 6) (.t 8))])
    (.cond (.t 9) (.seq (.reg [o1 4 (.mv (cI (-1)))])
      (.ret)) (.skip)))
   (.seq (.seq (.reg [o1 10 (.mv (.t 0)),
      o1 11 (.lenL (.t 10)),
      o1 12 (.mv (.t 1)),
      o1 13 (.lenL (.t 12)),
      o1 14 (.bin .gtr (.t 11) (.t 13))])
     (.cond (.t 14) (.seq (.reg [o1 4 (.mv (cI 1))])
       (.ret)) (.skip)))
    (.seq (.reg [o1 15 (.mv (.t 0)),
      o1 16 (.mv (.t 1)),
      o1 17 (.call (.f 61) [(.t 15), (.t 16)]),
      o1 4 (.mv (.t 17))])
     (.ret))))
theorem s24_ok : lookF Try.prog 24 = some (s24, 18, [.tmp 4]) := by kernel_rfl
theorem Compare_ok (a b : List Str) : Fn P 24 [sl a, sl b] (intA (compL a b)) := by
  (refine fn_look s24_ok (by simp) (by intro k; simp only [go_sem, Nat.reduceEqDiff, ↓reduceIte, reduceCtorEq, Nat.reduceAdd, Nat.reduceMul, Int.reduceToNat, List.reduceReplicate, Nat.reduceLeDiff, Nat.reduceLT, Int.reduceLT, Int.reduceLE, Int.reduceEq]) fun S hS => cwp_sound _ _ _ _ ?_; simp (maxSteps := 900000) (disch := omega) only [s24, go_sem, Nat.reduceEqDiff, ↓reduceIte, reduceCtorEq, Nat.reduceAdd, Nat.reduceMul, Int.reduceToNat, List.reduceReplicate, Nat.reduceLeDiff, Nat.reduceLT, Int.reduceLT, Int.reduceLE, Int.reduceEq])
  repeat' (first | with_reducible refine inw ?_ | simp (maxSteps := 900000) (disch := omega) only [go_sem, Nat.reduceEqDiff, ↓reduceIte, reduceCtorEq, Nat.reduceAdd, Nat.reduceMul, Int.reduceToNat, List.reduceReplicate, Nat.reduceLeDiff, Nat.reduceLT, Int.reduceLT, Int.reduceLE, Int.reduceEq] | (with_reducible apply call (Order_ok a b)); (focus simp (maxSteps := 900000) (disch := omega) only [go_sem, Nat.reduceEqDiff, ↓reduceIte, reduceCtorEq, Nat.reduceAdd, Nat.reduceMul, Int.reduceToNat, List.reduceReplicate, Nat.reduceLeDiff, Nat.reduceLT, Int.reduceLT, Int.reduceLE, Int.reduceEq] <;> rfl) | with_reducible refine pickB_f ?_ | with_reducible refine giv_intro fun _h => ?_ | with_reducible refine alt_intro ?_ fun _h => ?_ | with_reducible refine pickD_nil ?_ | (with_reducible refine brc (fun _h => ?_) fun _h => ?_) <;> first | (exfalso; omega) | simp only [decide_eq_false _h] | simp only [(_h : (_ : Bool) = _)] | simp only [decide_eq_true _h] | skip)
  all_goals unfold compL
  · rw [if_pos (by omega)]
  · rw [if_neg (by omega), if_pos (by omega)]
  · rw [if_neg (by omega), if_neg (by omega)]
end Go.Proofs.Ytpfoflhhbkjngaa.Ev

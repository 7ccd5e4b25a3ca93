/- Words, lists of texts: what the small functions compute (chapter 24). -/
import Derived.Test.YtfihpbeihlpfcaaZEvZn
import Derived.Test.YtfihpbeihlpfcaaZEvX
import Derived.Test.YtfihpbeihlpfcaaZEvZ
import Derived.Test.YtfihpbeihlpfcaaProg
import Derived.KernelRfl
set_option linter.unusedVariables false
set_option linter.unusedSimpArgs false
namespace Go.Proofs.Ytfihpbeihlpfcaa.Ev
open Go Go.Proofs
noncomputable abbrev P : Program := Try.prog
abbrev Str := ByteArray

def okByte (b : Int) : Bool := decide (33 ≤ b ∧ b ≤ 126 ∧ b ≠ 60 ∧ b ≠ 62)
def okText (s : Str) : Bool := decide (∀ i, i < s.size → okByte (byteAt s i) = true)
theorem okText_no {s : Str} {i : Nat} (h1 : i < s.size) (h2 : ¬ (33 ≤ byteAt s i ∧ byteAt s i ≤ 126 ∧ byteAt s i ≠ 60 ∧ byteAt s i ≠ 62)) : okText s = false :=
  decide_eq_false fun h => h2 (of_decide_eq_true (h i h1))
theorem okText_yes {s : Str} {i : Nat} (h1 : ¬ i < s.size) (h2 : ∀ j, j < i → okByte (byteAt s j) = true) : okText s = true :=
  decide_eq_true fun j hj => h2 j (by omega)
theorem okText_step {s : Str} {i : Nat} (h : ∀ j, j < i → okByte (byteAt s j) = true) (h2 : 33 ≤ byteAt s i ∧ byteAt s i ≤ 126 ∧ byteAt s i ≠ 60 ∧ byteAt s i ≠ 62) : ∀ j, j < i + 1 → okByte (byteAt s j) = true := fun j hj => by
  by_cases e : j = i
  · subst e; exact decide_eq_true h2
  · exact h j (by omega)
theorem size_zero {s : Str} : s = ⟨#[]⟩ ↔ s.size = 0 := by
  constructor
  · rintro rfl; rfl
  · intro h
    cases s with
    | mk d =>
      have : d.size = 0 := h
      rw [Array.size_eq_zero_iff] at this
      rw [this]

/-- ablaut/syms.isSymbol: 1 parameters, 0 captured -/
def s82 : SC := .seq (.reg [o1 2 (.mv (cB false))])
  (.seq (.seq (.reg [o1 4 (.mv (.t 0)),
     o1 5 (.lenS (.t 4)),
     o1 6 (.mv (cI 0))])
    (.block 0 (.loop (.seq (.reg [o1 7 (.bin .lss (.t 6) (.t 5))])
       (.seq (.cond (.t 7) (.skip) (.exit 0))
        (.seq (.block 1 (.seq (.reg [o1 8 (.mv (.t 6)),
            o1 3 (.mv (.t 8))])
           (.seq (.reg [o1 9 (.mv (.t 0)),
             o1 10 (.mv (.t 3)),
             o1 11 (.ixs (.t 9) (.t 10)),
             o1 12 (.bin .lss (.t 11) (.c (.int .u8 33))),
             o1 13 (.mv (.t 12)),
             oF 14 (.mv (.t 0)) 13,
             oF 15 (.mv (.t 3)) 13,
             oF 16 (.ixs (.t 14) (.t 15)) 13,
             oF 17 (.bin .gtr (.t 16) (.c (.int .u8 126))) 13,
             o1 18 (.pick (.t 13) (cB true) (.t 17)),
             o1 19 (.mv (.t 18)),
             oF 20 (.mv (.t 0)) 19,
             oF 21 (.mv (.t 3)) 19,
             oF 22 (.ixs (.t 20) (.t 21)) 19,
             oF 23 (.bin .eql (.t 22) (.c (.int .u8 60))) 19,
             o1 24 (.pick (.t 19) (cB true) (.t 23)),
             o1 25 (.mv (.t 24)),
             oF 26 (.mv (.t 0)) 25,
             oF 27 (.mv (.t 3)) 25,
             oF 28 (.ixs (.t 26) (.t 27)) 25,
             oF 29 (.bin .eql (.t 28) (.c (.int .u8 62))) 25,
             o1 30 (.pick (.t 25) (cB true) (.t 29))])
            (.cond (.t 30) (.seq (.reg [o1 2 (.mv (cB false))])
              (.ret)) (.skip)))))
         (.reg [o1 31 (.bin .add (.t 6) (cI 1)),
          o1 6 (.mv (.t 31))])))))))
   (.seq (.reg [o1 32 (.mv (.t 0)),
     o1 33 (.bin .neq (.t 32) (.c (.string ⟨#[]⟩))),
     o1 2 (.mv (.t 33))])
    (.ret)))
theorem s82_ok : lookF Try.prog 82 = some (s82, 34, [.tmp 2]) := by kernel_rfl
theorem isSymbol_ok (s : Str) (hs : s.size ≤ 4611686018427387904) : Fn P 82 [strA s] (boolA (okText s && decide (s.size ≠ 0))) := by
  (refine fn_look s82_ok (by simp) (by intro k; simp only [go_sem, Nat.reduceEqDiff, ↓reduceIte, reduceCtorEq, Nat.reduceAdd, Nat.reduceMul, Int.reduceToNat, List.reduceReplicate, Nat.reduceLeDiff, Nat.reduceLT, Int.reduceLT, Int.reduceLE, Int.reduceEq]) fun S hS => cwp_sound _ _ _ _ ?_; simp (maxSteps := 900000) (disch := omega) only [s82, go_sem, Nat.reduceEqDiff, ↓reduceIte, reduceCtorEq, Nat.reduceAdd, Nat.reduceMul, Int.reduceToNat, List.reduceReplicate, Nat.reduceLeDiff, Nat.reduceLT, Int.reduceLT, Int.reduceLE, Int.reduceEq])
  (refine loopC hS [0, 5] (by simp only [go_sem, Nat.reduceEqDiff, ↓reduceIte, reduceCtorEq, Nat.reduceAdd, Nat.reduceMul, Int.reduceToNat, List.reduceReplicate, Nat.reduceLeDiff, Nat.reduceLT, Int.reduceLT, Int.reduceLE, Int.reduceEq]; try rfl) (fun (i : Nat) => [(6, intA i)]) (fun (i : Nat) => []) (fun (i : Nat) => i ≤ s.size ∧ ∀ j, j < i → okByte (byteAt s j) = true) (fun (i : Nat) => s.size - i) (0) ?_ (by intro s; first | (simp only [List.length_cons, List.length_nil]; done) | rfl | (rcases s with ⟨_, _⟩; rfl) | (rcases s with ⟨_, _, _⟩; rfl) | (rcases s with ⟨_, _, _, _⟩; rfl) | (rcases s with ⟨_, _, _, _, _⟩; rfl)) ?_)
  · simp (maxSteps := 900000) (disch := omega) only [go_sem, Nat.reduceEqDiff, ↓reduceIte, reduceCtorEq, Nat.reduceAdd, Nat.reduceMul, Int.reduceToNat, List.reduceReplicate, Nat.reduceLeDiff, Nat.reduceLT, Int.reduceLT, Int.reduceLE, Int.reduceEq]; simp
  rintro i ⟨hi, hall⟩
  repeat' (first | with_reducible refine inw ?_ | simp (maxSteps := 900000) (disch := omega) only [go_sem, Nat.reduceEqDiff, ↓reduceIte, reduceCtorEq, Nat.reduceAdd, Nat.reduceMul, Int.reduceToNat, List.reduceReplicate, Nat.reduceLeDiff, Nat.reduceLT, Int.reduceLT, Int.reduceLE, Int.reduceEq] | with_reducible refine pickB_f ?_ | with_reducible refine giv_intro fun _h => ?_ | with_reducible refine alt_intro ?_ fun _h => ?_ | with_reducible refine pickD_nil ?_ | (with_reducible refine brc (fun _h => ?_) fun _h => ?_) <;> first | (exfalso; omega) | simp only [decide_eq_false _h] | simp only [(_h : (_ : Bool) = _)] | simp only [decide_eq_true _h] | skip)
  all_goals first
    | (refine ⟨i + 1, ⟨by omega, by omega, okText_step hall (by omega)⟩, by omega⟩)
    | (rw [okText_no (i := i) (by omega) (by omega)]; simp; done)
    | (rw [okText_yes (i := i) (by omega) hall]; simp [size_zero]; done)

/-- ablaut/ablautref01.IsSymbol: 1 parameters, 0 captured -/
def s72 : SC := .seq (.reg [o1 2 (.mv (cB false))])
  (.seq (.seq (.reg [o1 3 (.mv (cI 0))])
    (.block 0 (.loop (.seq (.seq (.reg [o1 4 (.mv (.t 3)),
         o1 5 (.mv (.t 0)),
         o1 6 (.lenS (.t 5)),
         o1 7 (.bin .lss (.t 4) (.t 6))])
        (.cond (.t 7) (.skip) (.exit 0)))
       (.seq (.block 1 (.seq (.reg [o1 10 (.mv (.t 0)),
           o1 11 (.mv (.t 3)),
           o1 12 (.ixs (.t 10) (.t 11)),
           o1 13 (.bin .lss (.t 12) (.c (.int .u8 33))),
           o1 14 (.mv (.t 13)),
           oF 15 (.mv (.t 0)) 14,
           oF 16 (.mv (.t 3)) 14,
           oF 17 (.ixs (.t 15) (.t 16)) 14,
           oF 18 (.bin .gtr (.t 17) (.c (.int .u8 126))) 14,
           o1 19 (.pick (.t 14) (cB true) (.t 18)),
           o1 20 (.mv (.t 19)),
           oF 21 (.mv (.t 0)) 20,
           oF 22 (.mv (.t 3)) 20,
           oF 23 (.ixs (.t 21) (.t 22)) 20,
           oF 24 (.bin .eql (.t 23) (.c (.int .u8 60))) 20,
           o1 25 (.pick (.t 20) (cB true) (.t 24)),
           o1 26 (.mv (.t 25)),
           oF 27 (.mv (.t 0)) 26,
           oF 28 (.mv (.t 3)) 26,
           oF 29 (.ixs (.t 27) (.t 28)) 26,
           oF 30 (.bin .eql (.t 29) (.c (.int .u8 62))) 26,
           o1 31 (.pick (.t 26) (cB true) (.t 30))])
          (.cond (.t 31) (.seq (.reg [o1 2 (.mv (cB false))])
            (.ret)) (.skip))))
        (.reg [o1 8 (.mv (.t 3)),
         o1 9 (.bin .add (.t 8) (cI 1)),
         o1 3 (.mv (.t 9))]))))))
   (.seq (.reg [o1 32 (.mv (.t 0)),
     o1 33 (.lenS (.t 32)),
     o1 34 (.bin .geq (.t 33) (cI 1)),
     o1 35 (.mv (.t 34)),
     oT 36 (.mv (.t 0)) 35,
     oT 37 (.lenS (.t 36)) 35,
     oT 38 (.bin .leq (.t 37) (cI 16)) 35,
     o1 39 (.pick (.t 35) (.t 38) (cB false)),
     o1 2 (.mv (.t 39))])
    (.ret)))
theorem s72_ok : lookF Try.prog 72 = some (s72, 40, [.tmp 2]) := by kernel_rfl
theorem IsSymbol_ok (s : Str) (hs : s.size ≤ 4611686018427387904) : Fn P 72 [strA s] (boolA (okText s && (decide (1 ≤ s.size) && decide (s.size ≤ 16)))) := by
  (refine fn_look s72_ok (by simp) (by intro k; simp only [go_sem, Nat.reduceEqDiff, ↓reduceIte, reduceCtorEq, Nat.reduceAdd, Nat.reduceMul, Int.reduceToNat, List.reduceReplicate, Nat.reduceLeDiff, Nat.reduceLT, Int.reduceLT, Int.reduceLE, Int.reduceEq]) fun S hS => cwp_sound _ _ _ _ ?_; simp (maxSteps := 900000) (disch := omega) only [s72, go_sem, Nat.reduceEqDiff, ↓reduceIte, reduceCtorEq, Nat.reduceAdd, Nat.reduceMul, Int.reduceToNat, List.reduceReplicate, Nat.reduceLeDiff, Nat.reduceLT, Int.reduceLT, Int.reduceLE, Int.reduceEq])
  (refine loopC hS [0] (by simp only [go_sem, Nat.reduceEqDiff, ↓reduceIte, reduceCtorEq, Nat.reduceAdd, Nat.reduceMul, Int.reduceToNat, List.reduceReplicate, Nat.reduceLeDiff, Nat.reduceLT, Int.reduceLT, Int.reduceLE, Int.reduceEq]; try rfl) (fun (i : Nat) => [(3, intA i)]) (fun (i : Nat) => []) (fun (i : Nat) => i ≤ s.size ∧ ∀ j, j < i → okByte (byteAt s j) = true) (fun (i : Nat) => s.size - i) (0) ?_ (by intro s; first | (simp only [List.length_cons, List.length_nil]; done) | rfl | (rcases s with ⟨_, _⟩; rfl) | (rcases s with ⟨_, _, _⟩; rfl) | (rcases s with ⟨_, _, _, _⟩; rfl) | (rcases s with ⟨_, _, _, _, _⟩; rfl)) ?_)
  · simp (maxSteps := 900000) (disch := omega) only [go_sem, Nat.reduceEqDiff, ↓reduceIte, reduceCtorEq, Nat.reduceAdd, Nat.reduceMul, Int.reduceToNat, List.reduceReplicate, Nat.reduceLeDiff, Nat.reduceLT, Int.reduceLT, Int.reduceLE, Int.reduceEq]; simp
  rintro i ⟨hi, hall⟩
  repeat' (first | with_reducible refine inw ?_ | simp (maxSteps := 900000) (disch := omega) only [go_sem, Nat.reduceEqDiff, ↓reduceIte, reduceCtorEq, Nat.reduceAdd, Nat.reduceMul, Int.reduceToNat, List.reduceReplicate, Nat.reduceLeDiff, Nat.reduceLT, Int.reduceLT, Int.reduceLE, Int.reduceEq] | with_reducible refine pickB_f ?_ | with_reducible refine giv_intro fun _h => ?_ | with_reducible refine alt_intro ?_ fun _h => ?_ | with_reducible refine pickD_nil ?_ | (with_reducible refine brc (fun _h => ?_) fun _h => ?_) <;> first | (exfalso; omega) | simp only [decide_eq_false _h] | simp only [(_h : (_ : Bool) = _)] | simp only [decide_eq_true _h] | skip)
  all_goals first
    | (refine ⟨i + 1, ⟨by omega, by omega, okText_step hall (by omega)⟩, by omega⟩)
    | (rw [okText_no (i := i) (by omega) (by omega)]; simp; done)
    | (rw [okText_yes (i := i) (by omega) hall, Bool.true_and, Bool.eq_iff_iff]; simp; omega)

/-- slices.IndexFunc[[]string,string]: 2 parameters, 0 captured -/
def s95 : SC := .seq (.reg [o1 4 (.mv (cI 0))])
  (.seq (.seq (.reg [o1 6 (.mv (.t 0)),
     o1 7 (.lenL (.t 6)),
     o1 8 (.mv (cI 0))])
    (.block 0 (.loop (.seq (.reg [o1 9 (.bin .lss (.t 8) (.t 7))])
       (.seq (.cond (.t 9) (.skip) (.exit 0))
        (.seq (.block 1 (.seq (.reg [o1 10 (.mv (.t 8)),
            o1 5 (.mv (.t 10))])
           (.seq (.reg [o1 11 (.mv (.t 1)),
             o1 12 (.mv (.t 0)),
             o1 13 (.mv (.t 5)),
             o1 14 (.iaddr 1 (.t 12) (.t 13)),
             o1 15 (.load none (.t 14)),
             o1 16 (.call (.t 11) [(.t 15)])])
            (.cond (.t 16) (.seq (.reg [o1 17 (.mv (.t 5)),
               o1 4 (.mv (.t 17))])
              (.ret)) (.skip)))))
         (.reg [o1 18 (.bin .add (.t 8) (cI 1)),
          o1 8 (.mv (.t 18))])))))))
   (.seq (.reg [o1 4 (.mv (cI (-1)))])
    (.ret)))
theorem s95_ok : lookF Try.prog 95 = some (s95, 19, [.tmp 4]) := by kernel_rfl
theorem IndexFunc_ok (l : List Str) (p : Str → Bool) (g : FuncId) (caps : List AV) (hc : ∀ c ∈ caps, AV.Still c) (hp : ∀ x, x ∈ l → Fn P g (strA x :: caps) (boolA (p x))) :
    Fn P 95 [sl l, .clo g caps] (intA (match l.findIdx? p with | some i => (i : Int) | none => -1)) := by
  have h1 := caps_seen hc
  have h2 := caps_bel hc
  (refine fn_look s95_ok (by simp) (by intro k; simp only [go_sem, Nat.reduceEqDiff, ↓reduceIte, reduceCtorEq, Nat.reduceAdd, Nat.reduceMul, Int.reduceToNat, List.reduceReplicate, Nat.reduceLeDiff, Nat.reduceLT, Int.reduceLT, Int.reduceLE, Int.reduceEq]) fun S hS => cwp_sound _ _ _ _ ?_; simp (maxSteps := 900000) (disch := omega) only [s95, go_sem, Nat.reduceEqDiff, ↓reduceIte, reduceCtorEq, Nat.reduceAdd, Nat.reduceMul, Int.reduceToNat, List.reduceReplicate, Nat.reduceLeDiff, Nat.reduceLT, Int.reduceLT, Int.reduceLE, Int.reduceEq])
  repeat' (first | with_reducible refine inw ?_ | simp (maxSteps := 900000) (disch := omega) only [go_sem, Nat.reduceEqDiff, ↓reduceIte, reduceCtorEq, Nat.reduceAdd, Nat.reduceMul, Int.reduceToNat, List.reduceReplicate, Nat.reduceLeDiff, Nat.reduceLT, Int.reduceLT, Int.reduceLE, Int.reduceEq, h1, h2] | with_reducible refine pickB_f ?_ | with_reducible refine giv_intro fun _h => ?_ | with_reducible refine alt_intro ?_ fun _h => ?_ | with_reducible refine pickD_nil ?_ | (with_reducible refine brc (fun _h => ?_) fun _h => ?_) <;> first | (exfalso; omega) | simp only [decide_eq_false _h] | simp only [(_h : (_ : Bool) = _)] | simp only [decide_eq_true _h] | skip)
  (refine loopC hS [0, 1, 7] (by simp only [go_sem, Nat.reduceEqDiff, ↓reduceIte, reduceCtorEq, Nat.reduceAdd, Nat.reduceMul, Int.reduceToNat, List.reduceReplicate, Nat.reduceLeDiff, Nat.reduceLT, Int.reduceLT, Int.reduceLE, Int.reduceEq]; try rfl) (fun (i : Nat) => [(8, intA i)]) (fun (i : Nat) => []) (fun (i : Nat) => i ≤ l.length ∧ l.findIdx? p = ((l.drop i).findIdx? p).map (· + i)) (fun (i : Nat) => l.length - i) (0) ?_ (by intro s; first | (simp only [List.length_cons, List.length_nil]; done) | rfl | (rcases s with ⟨_, _⟩; rfl) | (rcases s with ⟨_, _, _⟩; rfl) | (rcases s with ⟨_, _, _, _⟩; rfl) | (rcases s with ⟨_, _, _, _, _⟩; rfl)) ?_)
  · simp (maxSteps := 900000) (disch := omega) only [go_sem, Nat.reduceEqDiff, ↓reduceIte, reduceCtorEq, Nat.reduceAdd, Nat.reduceMul, Int.reduceToNat, List.reduceReplicate, Nat.reduceLeDiff, Nat.reduceLT, Int.reduceLT, Int.reduceLE, Int.reduceEq]; simp
  rintro i ⟨hi, hI⟩
  repeat' (first | with_reducible refine inw ?_ | simp (maxSteps := 900000) (disch := omega) only [go_sem, Nat.reduceEqDiff, ↓reduceIte, reduceCtorEq, Nat.reduceAdd, Nat.reduceMul, Int.reduceToNat, List.reduceReplicate, Nat.reduceLeDiff, Nat.reduceLT, Int.reduceLT, Int.reduceLE, Int.reduceEq, h1, h2] | (with_reducible apply call (hp _ (nth_mem (by assumption)))); (focus simp (maxSteps := 900000) (disch := omega) only [go_sem, Nat.reduceEqDiff, ↓reduceIte, reduceCtorEq, Nat.reduceAdd, Nat.reduceMul, Int.reduceToNat, List.reduceReplicate, Nat.reduceLeDiff, Nat.reduceLT, Int.reduceLT, Int.reduceLE, Int.reduceEq, h1, h2] <;> rfl) | with_reducible refine pickB_f ?_ | with_reducible refine giv_intro fun _h => ?_ | with_reducible refine alt_intro ?_ fun _h => ?_ | with_reducible refine pickD_nil ?_ | (with_reducible refine brc (fun _h => ?_) fun _h => ?_) <;> first | (exfalso; omega) | simp only [decide_eq_false _h] | simp only [(_h : (_ : Bool) = _)] | simp only [decide_eq_true _h] | skip)
  · rw [hI, nth_drop (by assumption)]
    simp_all [List.findIdx?_cons]
  · refine ⟨i + 1, ⟨by omega, by omega, ?_⟩, by omega⟩
    rw [hI, nth_drop (by assumption), List.findIdx?_cons]
    simp_all [Function.comp_def, Nat.add_comm, Nat.add_left_comm]
  · rw [hI, List.drop_eq_nil_of_le (by omega)]; rfl

theorem findIdx_any {l : List Str} {p : Str → Bool} : decide (0 ≤ (match l.findIdx? p with | some i => (i : Int) | none => -1)) = l.any p := by
  cases h : l.findIdx? p with
  | none => have := List.findIdx?_eq_none_iff.1 h; simp; simpa using this
  | some i =>
    obtain ⟨h1, h2, _⟩ := List.findIdx?_eq_some_iff_getElem.1 h
    have : l.any p = true := List.any_eq_true.2 ⟨l[i], List.getElem_mem h1, h2⟩
    rw [this]; simp

/-- slices.ContainsFunc[[]string,string]: 2 parameters, 0 captured -/
def s79 : SC := .seq (.reg [o1 4 (.mv (cB false))])
  (.seq (.reg [o1 5 (.mv (.t 0)),
    o1 6 (.mv (.t 1)),
    o1 7 (.call (.f 95) [(.t 5), (.t 6)]),
    o1 8 (.bin .geq (.t 7) (cI 0)),
    o1 4 (.mv (.t 8))])
   (.ret))
theorem s79_ok : lookF Try.prog 79 = some (s79, 9, [.tmp 4]) := by kernel_rfl
theorem ContainsFunc_ok (l : List Str) (p : Str → Bool) (g : FuncId) (caps : List AV) (hc : ∀ c ∈ caps, AV.Still c) (hp : ∀ x, x ∈ l → Fn P g (strA x :: caps) (boolA (p x))) :
    Fn P 79 [sl l, .clo g caps] (boolA (l.any p)) := by
  have h1 := caps_seen hc
  have h2 := caps_bel hc
  (refine fn_look s79_ok (by simp) (by intro k; simp only [go_sem, Nat.reduceEqDiff, ↓reduceIte, reduceCtorEq, Nat.reduceAdd, Nat.reduceMul, Int.reduceToNat, List.reduceReplicate, Nat.reduceLeDiff, Nat.reduceLT, Int.reduceLT, Int.reduceLE, Int.reduceEq]) fun S hS => cwp_sound _ _ _ _ ?_; simp (maxSteps := 900000) (disch := omega) only [s79, go_sem, Nat.reduceEqDiff, ↓reduceIte, reduceCtorEq, Nat.reduceAdd, Nat.reduceMul, Int.reduceToNat, List.reduceReplicate, Nat.reduceLeDiff, Nat.reduceLT, Int.reduceLT, Int.reduceLE, Int.reduceEq])
  repeat' (first | with_reducible refine inw ?_ | simp (maxSteps := 900000) (disch := omega) only [go_sem, Nat.reduceEqDiff, ↓reduceIte, reduceCtorEq, Nat.reduceAdd, Nat.reduceMul, Int.reduceToNat, List.reduceReplicate, Nat.reduceLeDiff, Nat.reduceLT, Int.reduceLT, Int.reduceLE, Int.reduceEq, h1, h2] | (with_reducible apply call (IndexFunc_ok l p g caps hc hp)); (focus simp (maxSteps := 900000) (disch := omega) only [go_sem, Nat.reduceEqDiff, ↓reduceIte, reduceCtorEq, Nat.reduceAdd, Nat.reduceMul, Int.reduceToNat, List.reduceReplicate, Nat.reduceLeDiff, Nat.reduceLT, Int.reduceLT, Int.reduceLE, Int.reduceEq, h1, h2] <;> rfl) | with_reducible refine pickB_f ?_ | with_reducible refine giv_intro fun _h => ?_ | with_reducible refine alt_intro ?_ fun _h => ?_ | with_reducible refine pickD_nil ?_ | (with_reducible refine brc (fun _h => ?_) fun _h => ?_) <;> first | (exfalso; omega) | simp only [decide_eq_false _h] | simp only [(_h : (_ : Bool) = _)] | simp only [decide_eq_true _h] | skip)
  exact findIdx_any

/-- ablaut/syms.isLong: 1 parameters, 0 captured -/
def s80 : SC := .seq (.reg [o1 2 (.mv (cB false))])
  (.seq (.reg [o1 3 (.mv (.t 0)),
    o1 4 (.lenS (.t 3)),
    o1 5 (.bin .gtr (.t 4) (cI 16)),
    o1 2 (.mv (.t 5))])
   (.ret))
theorem s80_ok : lookF Try.prog 80 = some (s80, 6, [.tmp 2]) := by kernel_rfl
theorem isLong_ok (s : Str) : Fn P 80 [strA s] (boolA (decide (16 < s.size))) := by
  (refine fn_look s80_ok (by simp) (by intro k; simp only [go_sem, Nat.reduceEqDiff, ↓reduceIte, reduceCtorEq, Nat.reduceAdd, Nat.reduceMul, Int.reduceToNat, List.reduceReplicate, Nat.reduceLeDiff, Nat.reduceLT, Int.reduceLT, Int.reduceLE, Int.reduceEq]) fun S hS => cwp_sound _ _ _ _ ?_; simp (maxSteps := 900000) (disch := omega) only [s80, go_sem, Nat.reduceEqDiff, ↓reduceIte, reduceCtorEq, Nat.reduceAdd, Nat.reduceMul, Int.reduceToNat, List.reduceReplicate, Nat.reduceLeDiff, Nat.reduceLT, Int.reduceLT, Int.reduceLE, Int.reduceEq])
  rw [Bool.eq_iff_iff]; simp; omega

/-- ablaut/syms.ValidateWord$1: 1 parameters, 0 captured -/
def s81 : SC := .seq (.reg [o1 2 (.mv (cB false))])
  (.seq (.reg [o1 3 (.mv (.t 0)),
    o1 4 (.call (.f 82) [(.t 3)]),
    o1 5 (.un .not (.t 4)),
    o1 2 (.mv (.t 5))])
   (.ret))
theorem s81_ok : lookF Try.prog 81 = some (s81, 6, [.tmp 2]) := by kernel_rfl
theorem ValidateWord1_ok (s : Str) (hs : s.size ≤ 4611686018427387904) : Fn P 81 [strA s] (boolA (!(okText s && decide (s.size ≠ 0)))) := by
  (refine fn_look s81_ok (by simp) (by intro k; simp only [go_sem, Nat.reduceEqDiff, ↓reduceIte, reduceCtorEq, Nat.reduceAdd, Nat.reduceMul, Int.reduceToNat, List.reduceReplicate, Nat.reduceLeDiff, Nat.reduceLT, Int.reduceLT, Int.reduceLE, Int.reduceEq]) fun S hS => cwp_sound _ _ _ _ ?_; simp (maxSteps := 900000) (disch := omega) only [s81, go_sem, Nat.reduceEqDiff, ↓reduceIte, reduceCtorEq, Nat.reduceAdd, Nat.reduceMul, Int.reduceToNat, List.reduceReplicate, Nat.reduceLeDiff, Nat.reduceLT, Int.reduceLT, Int.reduceLE, Int.reduceEq])
  repeat' (first | with_reducible refine inw ?_ | simp (maxSteps := 900000) (disch := omega) only [go_sem, Nat.reduceEqDiff, ↓reduceIte, reduceCtorEq, Nat.reduceAdd, Nat.reduceMul, Int.reduceToNat, List.reduceReplicate, Nat.reduceLeDiff, Nat.reduceLT, Int.reduceLT, Int.reduceLE, Int.reduceEq] | (with_reducible apply call (isSymbol_ok _ hs)); (focus simp (maxSteps := 900000) (disch := omega) only [go_sem, Nat.reduceEqDiff, ↓reduceIte, reduceCtorEq, Nat.reduceAdd, Nat.reduceMul, Int.reduceToNat, List.reduceReplicate, Nat.reduceLeDiff, Nat.reduceLT, Int.reduceLT, Int.reduceLE, Int.reduceEq] <;> rfl) | with_reducible refine pickB_f ?_ | with_reducible refine giv_intro fun _h => ?_ | with_reducible refine alt_intro ?_ fun _h => ?_ | with_reducible refine pickD_nil ?_ | (with_reducible refine brc (fun _h => ?_) fun _h => ?_) <;> first | (exfalso; omega) | simp only [decide_eq_false _h] | simp only [(_h : (_ : Bool) = _)] | simp only [decide_eq_true _h] | skip)

/-- The error of a word. -/
def wordErr (l : List Str) : Int :=
  if 60 < l.length ∨ l.any (fun s => decide (16 < s.size)) = true then 3 else if l.any (fun s => !(okText s && decide (s.size ≠ 0))) = true then 1 else 0
theorem no_long {l : List Str} (h : l.any (fun s => decide (16 < s.size)) = false) {x : Str} (hx : x ∈ l) : x.size ≤ 16 := by
  have := List.any_eq_false.1 h x hx
  simpa using this

/-- ablaut/syms.ValidateWord: 1 parameters, 0 captured -/
def s46 : SC := .seq (.reg [o1 2 (.mv (cI 0))])
  (.seq (.block 0 (.seq (.reg [o1 4 (.mv (.t 0)),
      o1 5 (.lenL (.t 4)),
      o1 6 (.bin .gtr (.t 5) (cI 60)),
      o1 7 (.mv (.t 6)),
      oF 8 (.mv (.t 0)) 7,
      oF 9 (.call (.f 79) [(.t 8), (.f 80)]) 7,
      o1 10 (.pick (.t 7) (cB true) (.t 9)),
      o1 3 (.mv (.t 10))])
     (.cond (.t 3) (.seq (.reg [o1 2 (.mv (cI 3))])
       (.ret)) (.seq (.reg [o1 12 (.mv (.t 0)),
        o1 13 (.call (.f 79) [(.t 12), (.f 81)]),
        o1 11 (.mv (.t 13))])
       (.cond (.t 11) (.seq (.reg [o1 2 (.mv (cI 1))])
         (.ret)) (.skip))))))
   (.seq (.reg [o1 2 (.mv (cI 0))])
    (.ret)))
theorem s46_ok : lookF Try.prog 46 = some (s46, 14, [.tmp 2]) := by kernel_rfl
theorem ValidateWord_ok (l : List Str) : Fn P 46 [sl l] (intA (wordErr l)) := by
  (refine fn_look s46_ok (by simp) (by intro k; simp only [go_sem, Nat.reduceEqDiff, ↓reduceIte, reduceCtorEq, Nat.reduceAdd, Nat.reduceMul, Int.reduceToNat, List.reduceReplicate, Nat.reduceLeDiff, Nat.reduceLT, Int.reduceLT, Int.reduceLE, Int.reduceEq]) fun S hS => cwp_sound _ _ _ _ ?_; simp (maxSteps := 900000) (disch := omega) only [s46, go_sem, Nat.reduceEqDiff, ↓reduceIte, reduceCtorEq, Nat.reduceAdd, Nat.reduceMul, Int.reduceToNat, List.reduceReplicate, Nat.reduceLeDiff, Nat.reduceLT, Int.reduceLT, Int.reduceLE, Int.reduceEq])
  repeat' (first | with_reducible refine inw ?_ | simp (maxSteps := 900000) (disch := omega) only [go_sem, Nat.reduceEqDiff, ↓reduceIte, reduceCtorEq, Nat.reduceAdd, Nat.reduceMul, Int.reduceToNat, List.reduceReplicate, Nat.reduceLeDiff, Nat.reduceLT, Int.reduceLT, Int.reduceLE, Int.reduceEq] | (with_reducible apply call (ContainsFunc_ok l (fun s => decide (16 < s.size)) _ [] (by simp) fun x _ => isLong_ok x)); (focus simp (maxSteps := 900000) (disch := omega) only [go_sem, Nat.reduceEqDiff, ↓reduceIte, reduceCtorEq, Nat.reduceAdd, Nat.reduceMul, Int.reduceToNat, List.reduceReplicate, Nat.reduceLeDiff, Nat.reduceLT, Int.reduceLT, Int.reduceLE, Int.reduceEq] <;> rfl) | (with_reducible apply call (ContainsFunc_ok l (fun s => !(okText s && decide (s.size ≠ 0))) _ [] (by simp) fun x hx => ValidateWord1_ok x (by have := no_long (by assumption) hx; omega))); (focus simp (maxSteps := 900000) (disch := omega) only [go_sem, Nat.reduceEqDiff, ↓reduceIte, reduceCtorEq, Nat.reduceAdd, Nat.reduceMul, Int.reduceToNat, List.reduceReplicate, Nat.reduceLeDiff, Nat.reduceLT, Int.reduceLT, Int.reduceLE, Int.reduceEq] <;> rfl) | with_reducible refine pickB_f ?_ | with_reducible refine giv_intro fun _h => ?_ | with_reducible refine alt_intro ?_ fun _h => ?_ | with_reducible refine pickD_nil ?_ | (with_reducible refine brc (fun _h => ?_) fun _h => ?_) <;> first | (exfalso; omega) | simp only [decide_eq_false _h] | simp only [(_h : (_ : Bool) = _)] | simp only [decide_eq_true _h] | skip)
  all_goals unfold wordErr
  · rw [if_pos (.inl (by omega))]
  · rw [if_pos (.inr (by assumption))]
  · rename_i h; rw [if_neg (by rw [h]; simp; omega), if_pos _h]
  · rename_i h; rw [if_neg (by rw [h]; simp; omega), if_neg (by rw [_h]; simp)]

/-- ablaut/ablautref01.anyLong: 1 parameters, 0 captured -/
def s32 : SC := .seq (.reg [o1 2 (.mv (cB false))])
  (.seq (.seq (.reg [o1 3 (.mv (cI 0))])
    (.block 0 (.loop (.seq (.seq (.reg [o1 4 (.mv (.t 3)),
         o1 5 (.mv (.t 0)),
         o1 6 (.lenL (.t 5)),
         o1 7 (.bin .lss (.t 4) (.t 6))])
        (.cond (.t 7) (.skip) (.exit 0)))
       (.seq (.block 1 (.seq (.reg [o1 10 (.mv (.t 0)),
           o1 11 (.mv (.t 3)),
           o1 12 (.iaddr 1 (.t 10) (.t 11)),
           o1 13 (.load none (.t 12)),
           o1 14 (.lenS (.t 13)),
           o1 15 (.bin .gtr (.t 14) (cI 16))])
          (.cond (.t 15) (.seq (.reg [o1 2 (.mv (cB true))])
            (.ret)) (.skip))))
        (.reg [o1 8 (.mv (.t 3)),
         o1 9 (.bin .add (.t 8) (cI 1)),
         o1 3 (.mv (.t 9))]))))))
   (.seq (.reg [o1 2 (.mv (cB false))])
    (.ret)))
theorem s32_ok : lookF Try.prog 32 = some (s32, 16, [.tmp 2]) := by kernel_rfl
theorem anyLong_ok (l : List Str) : Fn P 32 [sl l] (boolA (l.any (fun s => decide (16 < s.size)))) := by
  (refine fn_look s32_ok (by simp) (by intro k; simp only [go_sem, Nat.reduceEqDiff, ↓reduceIte, reduceCtorEq, Nat.reduceAdd, Nat.reduceMul, Int.reduceToNat, List.reduceReplicate, Nat.reduceLeDiff, Nat.reduceLT, Int.reduceLT, Int.reduceLE, Int.reduceEq]) fun S hS => cwp_sound _ _ _ _ ?_; simp (maxSteps := 900000) (disch := omega) only [s32, go_sem, Nat.reduceEqDiff, ↓reduceIte, reduceCtorEq, Nat.reduceAdd, Nat.reduceMul, Int.reduceToNat, List.reduceReplicate, Nat.reduceLeDiff, Nat.reduceLT, Int.reduceLT, Int.reduceLE, Int.reduceEq])
  (refine loopC hS [0] (by simp only [go_sem, Nat.reduceEqDiff, ↓reduceIte, reduceCtorEq, Nat.reduceAdd, Nat.reduceMul, Int.reduceToNat, List.reduceReplicate, Nat.reduceLeDiff, Nat.reduceLT, Int.reduceLT, Int.reduceLE, Int.reduceEq]; try rfl) (fun (i : Nat) => [(3, intA i)]) (fun (i : Nat) => []) (fun (i : Nat) => i ≤ l.length ∧ l.any (fun s => decide (16 < s.size)) = (l.drop i).any (fun s => decide (16 < s.size))) (fun (i : Nat) => l.length - i) (0) ?_ (by intro s; first | (simp only [List.length_cons, List.length_nil]; done) | rfl | (rcases s with ⟨_, _⟩; rfl) | (rcases s with ⟨_, _, _⟩; rfl) | (rcases s with ⟨_, _, _, _⟩; rfl) | (rcases s with ⟨_, _, _, _, _⟩; rfl)) ?_)
  · simp (maxSteps := 900000) (disch := omega) only [go_sem, Nat.reduceEqDiff, ↓reduceIte, reduceCtorEq, Nat.reduceAdd, Nat.reduceMul, Int.reduceToNat, List.reduceReplicate, Nat.reduceLeDiff, Nat.reduceLT, Int.reduceLT, Int.reduceLE, Int.reduceEq]; simp
  rintro i ⟨hi, hI⟩
  repeat' (first | with_reducible refine inw ?_ | simp (maxSteps := 900000) (disch := omega) only [go_sem, Nat.reduceEqDiff, ↓reduceIte, reduceCtorEq, Nat.reduceAdd, Nat.reduceMul, Int.reduceToNat, List.reduceReplicate, Nat.reduceLeDiff, Nat.reduceLT, Int.reduceLT, Int.reduceLE, Int.reduceEq] | with_reducible refine pickB_f ?_ | with_reducible refine giv_intro fun _h => ?_ | with_reducible refine alt_intro ?_ fun _h => ?_ | with_reducible refine pickD_nil ?_ | (with_reducible refine brc (fun _h => ?_) fun _h => ?_) <;> first | (exfalso; omega) | simp only [decide_eq_false _h] | simp only [(_h : (_ : Bool) = _)] | simp only [decide_eq_true _h] | skip)
  · rw [hI, nth_drop (by assumption), List.any_cons, decide_eq_true (by omega)]; rfl
  · refine ⟨i + 1, ⟨by omega, by omega, ?_⟩, by omega⟩
    rw [hI, nth_drop (by assumption), List.any_cons, decide_eq_false (by omega)]; rfl
  · rw [hI, List.drop_eq_nil_of_le (by omega)]; rfl

def goodS (s : Str) : Bool := okText s && (decide (1 ≤ s.size) && decide (s.size ≤ 16))
/-- ablaut/ablautref01.allSymbols: 1 parameters, 0 captured -/
def s33 : SC := .seq (.reg [o1 2 (.mv (cB false))])
  (.seq (.seq (.reg [o1 3 (.mv (cI 0))])
    (.block 0 (.loop (.seq (.seq (.reg [o1 4 (.mv (.t 3)),
         o1 5 (.mv (.t 0)),
         o1 6 (.lenL (.t 5)),
         o1 7 (.bin .lss (.t 4) (.t 6))])
        (.cond (.t 7) (.skip) (.exit 0)))
       (.seq (.block 1 (.seq (.reg [o1 10 (.mv (.t 0)),
           o1 11 (.mv (.t 3)),
           o1 12 (.iaddr 1 (.t 10) (.t 11)),
           o1 13 (.load none (.t 12)),
           o1 14 (.call (.f 72) [(.t 13)]),
           o1 15 (.un .not (.t 14))])
          (.cond (.t 15) (.seq (.reg [o1 2 (.mv (cB false))])
            (.ret)) (.skip))))
        (.reg [o1 8 (.mv (.t 3)),
         o1 9 (.bin .add (.t 8) (cI 1)),
         o1 3 (.mv (.t 9))]))))))
   (.seq (.reg [o1 2 (.mv (cB true))])
    (.ret)))
theorem s33_ok : lookF Try.prog 33 = some (s33, 16, [.tmp 2]) := by kernel_rfl
theorem allSymbols_ok (l : List Str) (hb : ∀ x, x ∈ l → x.size ≤ 4611686018427387904) : Fn P 33 [sl l] (boolA (l.all goodS)) := by
  (refine fn_look s33_ok (by simp) (by intro k; simp only [go_sem, Nat.reduceEqDiff, ↓reduceIte, reduceCtorEq, Nat.reduceAdd, Nat.reduceMul, Int.reduceToNat, List.reduceReplicate, Nat.reduceLeDiff, Nat.reduceLT, Int.reduceLT, Int.reduceLE, Int.reduceEq]) fun S hS => cwp_sound _ _ _ _ ?_; simp (maxSteps := 900000) (disch := omega) only [s33, go_sem, Nat.reduceEqDiff, ↓reduceIte, reduceCtorEq, Nat.reduceAdd, Nat.reduceMul, Int.reduceToNat, List.reduceReplicate, Nat.reduceLeDiff, Nat.reduceLT, Int.reduceLT, Int.reduceLE, Int.reduceEq])
  (refine loopC hS [0] (by simp only [go_sem, Nat.reduceEqDiff, ↓reduceIte, reduceCtorEq, Nat.reduceAdd, Nat.reduceMul, Int.reduceToNat, List.reduceReplicate, Nat.reduceLeDiff, Nat.reduceLT, Int.reduceLT, Int.reduceLE, Int.reduceEq]; try rfl) (fun (i : Nat) => [(3, intA i)]) (fun (i : Nat) => []) (fun (i : Nat) => i ≤ l.length ∧ l.all goodS = (l.drop i).all goodS) (fun (i : Nat) => l.length - i) (0) ?_ (by intro s; first | (simp only [List.length_cons, List.length_nil]; done) | rfl | (rcases s with ⟨_, _⟩; rfl) | (rcases s with ⟨_, _, _⟩; rfl) | (rcases s with ⟨_, _, _, _⟩; rfl) | (rcases s with ⟨_, _, _, _, _⟩; rfl)) ?_)
  · simp (maxSteps := 900000) (disch := omega) only [go_sem, Nat.reduceEqDiff, ↓reduceIte, reduceCtorEq, Nat.reduceAdd, Nat.reduceMul, Int.reduceToNat, List.reduceReplicate, Nat.reduceLeDiff, Nat.reduceLT, Int.reduceLT, Int.reduceLE, Int.reduceEq]; simp
  rintro i ⟨hi, hI⟩
  repeat' (first | with_reducible refine inw ?_ | simp (maxSteps := 900000) (disch := omega) only [go_sem, Nat.reduceEqDiff, ↓reduceIte, reduceCtorEq, Nat.reduceAdd, Nat.reduceMul, Int.reduceToNat, List.reduceReplicate, Nat.reduceLeDiff, Nat.reduceLT, Int.reduceLT, Int.reduceLE, Int.reduceEq] | (with_reducible apply call (IsSymbol_ok _ (hb _ (nth_mem (by assumption))))); (focus simp (maxSteps := 900000) (disch := omega) only [go_sem, Nat.reduceEqDiff, ↓reduceIte, reduceCtorEq, Nat.reduceAdd, Nat.reduceMul, Int.reduceToNat, List.reduceReplicate, Nat.reduceLeDiff, Nat.reduceLT, Int.reduceLT, Int.reduceLE, Int.reduceEq] <;> rfl) | with_reducible refine pickB_f ?_ | with_reducible refine giv_intro fun _h => ?_ | with_reducible refine alt_intro ?_ fun _h => ?_ | with_reducible refine pickD_nil ?_ | (with_reducible refine brc (fun _h => ?_) fun _h => ?_) <;> first | (exfalso; omega) | simp only [decide_eq_false _h] | simp only [(_h : (_ : Bool) = _)] | simp only [decide_eq_true _h] | skip)
  · rw [hI, nth_drop (by assumption), List.all_cons, goodS, _h]; rfl
  · refine ⟨i + 1, ⟨by omega, by omega, ?_⟩, by omega⟩
    rw [hI, nth_drop (by assumption), List.all_cons, goodS, _h]; rfl
  · rw [hI, List.drop_eq_nil_of_le (by omega)]; rfl

theorem all_mem {α : Type} {f g : α → Bool} : ∀ {l : List α}, (∀ x, x ∈ l → f x = g x) → l.all f = l.all g
  | [], _ => rfl
  | x :: xs, h => by simp only [List.all_cons]; rw [h x (by simp), all_mem fun y hy => h y (by simp [hy])]
/-- ablaut/ablautref01.ValidateWord: 1 parameters, 0 captured -/
def s9 : SC := .seq (.reg [o1 2 (.mv (cI 0))])
  (.seq (.seq (.reg [o1 3 (.mv (.t 0)),
     o1 4 (.lenL (.t 3)),
     o1 5 (.bin .gtr (.t 4) (cI 60)),
     o1 6 (.mv (.t 5)),
     oF 7 (.mv (.t 0)) 6,
     oF 8 (.call (.f 32) [(.t 7)]) 6,
     o1 9 (.pick (.t 6) (cB true) (.t 8))])
    (.cond (.t 9) (.seq (.reg [o1 2 (.mv (cI 3))])
      (.ret)) (.skip)))
   (.seq (.seq (.reg [o1 10 (.mv (.t 0)),
      o1 11 (.call (.f 33) [(.t 10)]),
      o1 12 (.un .not (.t 11))])
     (.cond (.t 12) (.seq (.reg [o1 2 (.mv (cI 1))])
       (.ret)) (.skip)))
    (.seq (.reg [o1 2 (.mv (cI 0))])
     (.ret))))
theorem s9_ok : lookF Try.prog 9 = some (s9, 13, [.tmp 2]) := by kernel_rfl
theorem refValidateWord_ok (l : List Str) : Fn P 9 [sl l] (intA (wordErr l)) := by
  have e : l.any (fun s => decide (16 < s.size)) = false → l.all goodS = !(l.any (fun s => !(okText s && decide (s.size ≠ 0)))) := fun h => by
    rw [List.not_any_eq_all_not]
    refine all_mem fun x hx => ?_
    have := no_long h hx
    rw [goodS, decide_eq_true this, Bool.and_true, Bool.not_not]
    congr 1
    simp only [decide_eq_decide]
    omega
  (refine fn_look s9_ok (by simp) (by intro k; simp only [go_sem, Nat.reduceEqDiff, ↓reduceIte, reduceCtorEq, Nat.reduceAdd, Nat.reduceMul, Int.reduceToNat, List.reduceReplicate, Nat.reduceLeDiff, Nat.reduceLT, Int.reduceLT, Int.reduceLE, Int.reduceEq]) fun S hS => cwp_sound _ _ _ _ ?_; simp (maxSteps := 900000) (disch := omega) only [s9, go_sem, Nat.reduceEqDiff, ↓reduceIte, reduceCtorEq, Nat.reduceAdd, Nat.reduceMul, Int.reduceToNat, List.reduceReplicate, Nat.reduceLeDiff, Nat.reduceLT, Int.reduceLT, Int.reduceLE, Int.reduceEq])
  repeat' (first | with_reducible refine inw ?_ | simp (maxSteps := 900000) (disch := omega) only [go_sem, Nat.reduceEqDiff, ↓reduceIte, reduceCtorEq, Nat.reduceAdd, Nat.reduceMul, Int.reduceToNat, List.reduceReplicate, Nat.reduceLeDiff, Nat.reduceLT, Int.reduceLT, Int.reduceLE, Int.reduceEq] | (with_reducible apply call (anyLong_ok l)); (focus simp (maxSteps := 900000) (disch := omega) only [go_sem, Nat.reduceEqDiff, ↓reduceIte, reduceCtorEq, Nat.reduceAdd, Nat.reduceMul, Int.reduceToNat, List.reduceReplicate, Nat.reduceLeDiff, Nat.reduceLT, Int.reduceLT, Int.reduceLE, Int.reduceEq] <;> rfl) | (with_reducible apply call (allSymbols_ok l (fun x hx => by have := no_long (by assumption) hx; omega))); (focus simp (maxSteps := 900000) (disch := omega) only [go_sem, Nat.reduceEqDiff, ↓reduceIte, reduceCtorEq, Nat.reduceAdd, Nat.reduceMul, Int.reduceToNat, List.reduceReplicate, Nat.reduceLeDiff, Nat.reduceLT, Int.reduceLT, Int.reduceLE, Int.reduceEq] <;> rfl) | with_reducible refine pickB_f ?_ | with_reducible refine giv_intro fun _h => ?_ | with_reducible refine alt_intro ?_ fun _h => ?_ | with_reducible refine pickD_nil ?_ | (with_reducible refine brc (fun _h => ?_) fun _h => ?_) <;> first | (exfalso; omega) | simp only [decide_eq_false _h] | simp only [(_h : (_ : Bool) = _)] | simp only [decide_eq_true _h] | skip)
  all_goals unfold wordErr
  · rw [if_pos (.inl (by omega))]
  · rw [if_pos (.inr (by assumption))]
  · rename_i h; rw [e h] at _h; rw [if_neg (by rw [h]; simp; omega), if_pos (by simpa using _h)]
  · rename_i h; rw [e h] at _h; rw [if_neg (by rw [h]; simp; omega), if_neg (by simpa using _h)]

/-- The first error of words. -/
def wordsErr : List (List Str) → Int
  | [] => 0
  | w :: ws => if wordErr w ≠ 0 then wordErr w else wordsErr ws

theorem drop_end {α : Type} {l : List α} {i : Nat} (h : l.length ≤ i) : l.drop i = [] := List.drop_eq_nil_of_le h
theorem drop_cons_eq {α : Type} {k : Nat} [Enc α k] {a b : List α} {i : Nat} (ha : i < a.length) (hb : i < b.length) : (a.drop i = b.drop i) = (nth a i = nth b i ∧ a.drop (i + 1) = b.drop (i + 1)) := by
  rw [nth_drop ha, nth_drop hb]; simp
/-- slices.Equal[[]string,string]: 2 parameters, 0 captured -/
def s54 : SC := .seq (.reg [o1 4 (.mv (cB false))])
  (.seq (.seq (.reg [o1 6 (.mv (.t 0)),
     o1 7 (.lenL (.t 6)),
     o1 8 (.mv (.t 1)),
     o1 9 (.lenL (.t 8)),
     o1 10 (.bin .neq (.t 7) (.t 9))])
    (.cond (.t 10) (.seq (.reg [o1 4 (.mv (cB false))])
      (.ret)) (.skip)))
   (.seq (.seq (.reg [o1 11 (.mv (.t 0)),
      o1 12 (.lenL (.t 11)),
      o1 13 (.mv (cI 0))])
     (.block 0 (.loop (.seq (.reg [o1 14 (.bin .lss (.t 13) (.t 12))])
        (.seq (.cond (.t 14) (.skip) (.exit 0))
         (.seq (.block 1 (.seq (.reg [o1 15 (.mv (.t 13)),
             o1 5 (.mv (.t 15))])
            (.seq (.regD [o1 16 (.mv (.t 0)),
              o1 17 (.mv (.t 5)),
              o1 18 (.iaddr 1 (.t 16) (.t 17)),
              o1 19 (.load none (.t 18)),
              o1 20 (.mv (.t 1)),
              o1 21 (.mv (.t 5)),
              o1 22 (.iaddr 1 (.t 20) (.t 21)),
              o1 23 (.load none (.t 22)),
              o1 24 (.bin .neq (.t 19) (.t 23))])
             (.cond (.t 24) (.seq (.reg [o1 4 (.mv (cB false))])
               (.ret)) (.skip)))))
          (.reg [o1 25 (.bin .add (.t 13) (cI 1)),
           o1 13 (.mv (.t 25))])))))))
    (.seq (.reg [o1 4 (.mv (cB true))])
     (.ret))))
theorem s54_ok : lookF Try.prog 54 = some (s54, 26, [.tmp 4]) := by kernel_rfl
theorem Equal_ok (a b : List Str) : Fn P 54 [sl a, sl b] (boolA (decide (a = b))) := by
  (refine fn_look s54_ok (by simp) (by intro k; simp only [go_sem, Nat.reduceEqDiff, ↓reduceIte, reduceCtorEq, Nat.reduceAdd, Nat.reduceMul, Int.reduceToNat, List.reduceReplicate, Nat.reduceLeDiff, Nat.reduceLT, Int.reduceLT, Int.reduceLE, Int.reduceEq]) fun S hS => cwp_sound _ _ _ _ ?_; simp (maxSteps := 900000) (disch := omega) only [s54, go_sem, Nat.reduceEqDiff, ↓reduceIte, reduceCtorEq, Nat.reduceAdd, Nat.reduceMul, Int.reduceToNat, List.reduceReplicate, Nat.reduceLeDiff, Nat.reduceLT, Int.reduceLT, Int.reduceLE, Int.reduceEq])
  repeat' (first | with_reducible refine inw ?_ | simp (maxSteps := 900000) (disch := omega) only [go_sem, Nat.reduceEqDiff, ↓reduceIte, reduceCtorEq, Nat.reduceAdd, Nat.reduceMul, Int.reduceToNat, List.reduceReplicate, Nat.reduceLeDiff, Nat.reduceLT, Int.reduceLT, Int.reduceLE, Int.reduceEq] | with_reducible refine pickB_f ?_ | with_reducible refine giv_intro fun _h => ?_ | with_reducible refine alt_intro ?_ fun _h => ?_ | with_reducible refine pickD_nil ?_ | (with_reducible refine brc (fun _h => ?_) fun _h => ?_) <;> first | (exfalso; omega) | simp only [decide_eq_false _h] | simp only [(_h : (_ : Bool) = _)] | simp only [decide_eq_true _h] | skip)
  · exact (decide_eq_false (by rintro rfl; exact _h rfl)).symm
  (refine loopC hS [0, 1, 12] (by simp only [go_sem, Nat.reduceEqDiff, ↓reduceIte, reduceCtorEq, Nat.reduceAdd, Nat.reduceMul, Int.reduceToNat, List.reduceReplicate, Nat.reduceLeDiff, Nat.reduceLT, Int.reduceLT, Int.reduceLE, Int.reduceEq]; try rfl) (fun (i : Nat) => [(13, intA i)]) (fun (i : Nat) => []) (fun (i : Nat) => i ≤ a.length ∧ (a = b ↔ a.drop i = b.drop i)) (fun (i : Nat) => a.length - i) (0) ?_ (by intro s; first | (simp only [List.length_cons, List.length_nil]; done) | rfl | (rcases s with ⟨_, _⟩; rfl) | (rcases s with ⟨_, _, _⟩; rfl) | (rcases s with ⟨_, _, _, _⟩; rfl) | (rcases s with ⟨_, _, _, _, _⟩; rfl)) ?_)
  · simp (maxSteps := 900000) (disch := omega) only [go_sem, Nat.reduceEqDiff, ↓reduceIte, reduceCtorEq, Nat.reduceAdd, Nat.reduceMul, Int.reduceToNat, List.reduceReplicate, Nat.reduceLeDiff, Nat.reduceLT, Int.reduceLT, Int.reduceLE, Int.reduceEq]; simp
  rintro i ⟨hi, hI⟩
  repeat' (first | with_reducible refine inw ?_ | simp (maxSteps := 900000) (disch := omega) only [go_sem, Nat.reduceEqDiff, ↓reduceIte, reduceCtorEq, Nat.reduceAdd, Nat.reduceMul, Int.reduceToNat, List.reduceReplicate, Nat.reduceLeDiff, Nat.reduceLT, Int.reduceLT, Int.reduceLE, Int.reduceEq] | with_reducible refine pickB_f ?_ | with_reducible refine giv_intro fun _h => ?_ | with_reducible refine alt_intro ?_ fun _h => ?_ | with_reducible refine pickD_nil ?_ | (with_reducible refine brc (fun _h => ?_) fun _h => ?_) <;> first | (exfalso; omega) | simp only [decide_eq_false _h] | simp only [(_h : (_ : Bool) = _)] | simp only [decide_eq_true _h] | skip)
  · rename_i h1 h2; exact (decide_eq_false (by rw [hI, drop_cons_eq h2 (by omega)]; exact fun h => _h h.1)).symm
  · rename_i h1 h2; refine ⟨i + 1, ⟨by omega, by omega, ?_⟩, by omega⟩
    rw [hI, drop_cons_eq h2 (by omega)]; simp [_h]
  · exact (decide_eq_true (by rw [hI, List.drop_eq_nil_of_le (by omega), List.drop_eq_nil_of_le (by omega)])).symm

/-- The order of lists of texts: texts by bytes, a begin first. -/
def orderL : List Str → List Str → Int
  | [], [] => 0
  | [], _ :: _ => -1
  | _ :: _, [] => 1
  | a :: x, b :: y => if ltB a b then -1 else if ltB b a then 1 else orderL x y
/-- ablaut/ablautref01.Order: 2 parameters, 0 captured -/
def s58 : SC := .seq (.reg [o1 4 (.mv (cI 0))])
  (.seq (.seq (.reg [o1 5 (.mv (cI 0))])
    (.block 0 (.loop (.seq (.seq (.reg [o1 6 (.mv (.t 5)),
         o1 7 (.mv (.t 0)),
         o1 8 (.lenL (.t 7)),
         o1 9 (.bin .lss (.t 6) (.t 8)),
         o1 10 (.mv (.t 9)),
         oT 11 (.mv (.t 5)) 10,
         oT 12 (.mv (.t 1)) 10,
         oT 13 (.lenL (.t 12)) 10,
         oT 14 (.bin .lss (.t 11) (.t 13)) 10,
         o1 15 (.pick (.t 10) (.t 14) (cB false))])
        (.cond (.t 15) (.skip) (.exit 0)))
       (.seq (.block 1 (.seq (.seq (.regD [o1 18 (.mv (.t 0)),
            o1 19 (.mv (.t 5)),
            o1 20 (.iaddr 1 (.t 18) (.t 19)),
            o1 21 (.load none (.t 20)),
            o1 22 (.mv (.t 1)),
            o1 23 (.mv (.t 5)),
            o1 24 (.iaddr 1 (.t 22) (.t 23)),
            o1 25 (.load none (.t 24)),
            o1 26 (.bin .lss (.t 21) (.t 25))])
           (.cond (.t 26) (.seq (.reg [o1 4 (.mv (cI (-1)))])
             (.ret)) (.skip)))
          (.seq (.regD [o1 27 (.mv (.t 0)),
            o1 28 (.mv (.t 5)),
            o1 29 (.iaddr 1 (.t 27) (.t 28)),
            o1 30 (.load none (.t 29)),
            o1 31 (.mv (.t 1)),
            o1 32 (.mv (.t 5)),
            o1 33 (.iaddr 1 (.t 31) (.t 32)),
            o1 34 (.load none (.t 33)),
            o1 35 (.bin .gtr (.t 30) (.t 34))])
           (.cond (.t 35) (.seq (.reg [o1 4 (.mv (cI 1))])
             (.ret)) (.skip)))))
        (.reg [o1 16 (.mv (.t 5)),
         o1 17 (.bin .add (.t 16) (cI 1)),
         o1 5 (.mv (.t 17))]))))))
   (.seq (.block 2 (.seq (.reg [o1 37 (.mv (.t 0)),
       o1 38 (.lenL (.t 37)),
       o1 39 (.mv (.t 1)),
       o1 40 (.lenL (.t 39)),
       o1 41 (.bin .lss (.t 38) (.t 40)),
       o1 36 (.mv (.t 41))])
      (.cond (.t 36) (.seq (.reg [o1 4 (.mv (cI (-1)))])
        (.ret)) (.seq (.reg [o1 43 (.mv (.t 0)),
         o1 44 (.lenL (.t 43)),
         o1 45 (.mv (.t 1)),
         o1 46 (.lenL (.t 45)),
         o1 47 (.bin .gtr (.t 44) (.t 46)),
         o1 42 (.mv (.t 47))])
        (.cond (.t 42) (.seq (.reg [o1 4 (.mv (cI 1))])
          (.ret)) (.skip))))))
    (.seq (.reg [o1 4 (.mv (cI 0))])
     (.ret))))
theorem s58_ok : lookF Try.prog 58 = some (s58, 48, [.tmp 4]) := by kernel_rfl
theorem Order_ok (a b : List Str) : Fn P 58 [sl a, sl b] (intA (orderL a b)) := by
  (refine fn_look s58_ok (by simp) (by intro k; simp only [go_sem, Nat.reduceEqDiff, ↓reduceIte, reduceCtorEq, Nat.reduceAdd, Nat.reduceMul, Int.reduceToNat, List.reduceReplicate, Nat.reduceLeDiff, Nat.reduceLT, Int.reduceLT, Int.reduceLE, Int.reduceEq]) fun S hS => cwp_sound _ _ _ _ ?_; simp (maxSteps := 900000) (disch := omega) only [s58, go_sem, Nat.reduceEqDiff, ↓reduceIte, reduceCtorEq, Nat.reduceAdd, Nat.reduceMul, Int.reduceToNat, List.reduceReplicate, Nat.reduceLeDiff, Nat.reduceLT, Int.reduceLT, Int.reduceLE, Int.reduceEq])
  (refine loopC hS [0, 1] (by simp only [go_sem, Nat.reduceEqDiff, ↓reduceIte, reduceCtorEq, Nat.reduceAdd, Nat.reduceMul, Int.reduceToNat, List.reduceReplicate, Nat.reduceLeDiff, Nat.reduceLT, Int.reduceLT, Int.reduceLE, Int.reduceEq]; try rfl) (fun (i : Nat) => [(5, intA i)]) (fun (i : Nat) => []) (fun (i : Nat) => i ≤ a.length ∧ i ≤ b.length ∧ orderL a b = orderL (a.drop i) (b.drop i)) (fun (i : Nat) => a.length - i) (0) ?_ (by intro s; first | (simp only [List.length_cons, List.length_nil]; done) | rfl | (rcases s with ⟨_, _⟩; rfl) | (rcases s with ⟨_, _, _⟩; rfl) | (rcases s with ⟨_, _, _, _⟩; rfl) | (rcases s with ⟨_, _, _, _, _⟩; rfl)) ?_)
  · simp (maxSteps := 900000) (disch := omega) only [go_sem, Nat.reduceEqDiff, ↓reduceIte, reduceCtorEq, Nat.reduceAdd, Nat.reduceMul, Int.reduceToNat, List.reduceReplicate, Nat.reduceLeDiff, Nat.reduceLT, Int.reduceLT, Int.reduceLE, Int.reduceEq]; simp
  rintro i ⟨hi, hi2, hI⟩
  repeat' (first | with_reducible refine inw ?_ | simp (maxSteps := 900000) (disch := omega) only [go_sem, Nat.reduceEqDiff, ↓reduceIte, reduceCtorEq, Nat.reduceAdd, Nat.reduceMul, Int.reduceToNat, List.reduceReplicate, Nat.reduceLeDiff, Nat.reduceLT, Int.reduceLT, Int.reduceLE, Int.reduceEq] | with_reducible refine pickB_f ?_ | with_reducible refine giv_intro fun _h => ?_ | with_reducible refine alt_intro ?_ fun _h => ?_ | with_reducible refine pickD_nil ?_ | (with_reducible refine brc (fun _h => ?_) fun _h => ?_) <;> first | (exfalso; omega) | simp only [decide_eq_false _h] | simp only [(_h : (_ : Bool) = _)] | simp only [decide_eq_true _h] | skip)
  all_goals rw [hI]
  · rw [nth_drop (l := a) (i := i) (by omega), nth_drop (l := b) (i := i) (by omega), orderL, if_pos _h]
  · rename_i h; rw [nth_drop (l := a) (i := i) (by omega), nth_drop (l := b) (i := i) (by omega), orderL, if_neg (by rw [h]; simp), if_pos _h]
  · rename_i h; refine ⟨i + 1, ⟨by omega, by omega, by omega, ?_⟩, by omega⟩
    rw [nth_drop (l := a) (i := i) (by omega), nth_drop (l := b) (i := i) (by omega), orderL, if_neg (by rw [h]; simp), if_neg (by rw [_h]; simp)]
  all_goals first
    | omega
    | (rw [drop_end (l := a) (i := i) (by omega), drop_end (l := b) (i := i) (by omega)]; rfl)
    | (rw [drop_end (l := a) (i := i) (by omega), nth_drop (l := b) (i := i) (by omega)]; rfl)
    | (rw [drop_end (l := b) (i := i) (by omega), nth_drop (l := a) (i := i) (by omega)]; rfl)

theorem orderL_zero {a b : List Str} : orderL a b = 0 ↔ a = b := by
  induction a generalizing b with
  | nil => cases b <;> simp [orderL]
  | cons x a ih =>
    cases b with
    | nil => simp [orderL]
    | cons y b =>
      simp only [orderL]
      by_cases h1 : ltB x y = true
      · rw [if_pos h1]; simp; rintro rfl; rw [ltB_irrefl] at h1; cases h1
      · rw [if_neg h1]
        by_cases h2 : ltB y x = true
        · rw [if_pos h2]; simp; rintro rfl; rw [ltB_irrefl] at h2; cases h2
        · rw [if_neg h2, ih]
          have := ltB_tri (by simpa using h1) (by simpa using h2)
          simp [this]
theorem findIdx_any' {l : List Str} {v : Str} : decide (0 ≤ (match l.findIdx? (fun x => decide (v = x)) with | some i => (i : Int) | none => -1)) = l.any (fun x => decide (v = x)) := findIdx_any
/-- slices.Index[[]string,string]: 2 parameters, 0 captured -/
def s97 : SC := .seq (.reg [o1 4 (.mv (cI 0))])
  (.seq (.seq (.reg [o1 6 (.mv (.t 0)),
     o1 7 (.lenL (.t 6)),
     o1 8 (.mv (cI 0))])
    (.block 0 (.loop (.seq (.reg [o1 9 (.bin .lss (.t 8) (.t 7))])
       (.seq (.cond (.t 9) (.skip) (.exit 0))
        (.seq (.block 1 (.seq (.reg [o1 10 (.mv (.t 8)),
            o1 5 (.mv (.t 10))])
           (.seq (.reg [o1 11 (.mv (.t 1)),
             o1 12 (.mv (.t 0)),
             o1 13 (.mv (.t 5)),
             o1 14 (.iaddr 1 (.t 12) (.t 13)),
             o1 15 (.load none (.t 14)),
             o1 16 (.bin .eql (.t 11) (.t 15))])
            (.cond (.t 16) (.seq (.reg [o1 17 (.mv (.t 5)),
               o1 4 (.mv (.t 17))])
              (.ret)) (.skip)))))
         (.reg [o1 18 (.bin .add (.t 8) (cI 1)),
          o1 8 (.mv (.t 18))])))))))
   (.seq (.reg [o1 4 (.mv (cI (-1)))])
    (.ret)))
theorem s97_ok : lookF Try.prog 97 = some (s97, 19, [.tmp 4]) := by kernel_rfl
theorem Index_ok (l : List Str) (v : Str) :
    Fn P 97 [sl l, strA v] (intA (match l.findIdx? (fun x => decide (v = x)) with | some i => (i : Int) | none => -1)) := by
  (refine fn_look s97_ok (by simp) (by intro k; simp only [go_sem, Nat.reduceEqDiff, ↓reduceIte, reduceCtorEq, Nat.reduceAdd, Nat.reduceMul, Int.reduceToNat, List.reduceReplicate, Nat.reduceLeDiff, Nat.reduceLT, Int.reduceLT, Int.reduceLE, Int.reduceEq]) fun S hS => cwp_sound _ _ _ _ ?_; simp (maxSteps := 900000) (disch := omega) only [s97, go_sem, Nat.reduceEqDiff, ↓reduceIte, reduceCtorEq, Nat.reduceAdd, Nat.reduceMul, Int.reduceToNat, List.reduceReplicate, Nat.reduceLeDiff, Nat.reduceLT, Int.reduceLT, Int.reduceLE, Int.reduceEq])
  repeat' (first | with_reducible refine inw ?_ | simp (maxSteps := 900000) (disch := omega) only [go_sem, Nat.reduceEqDiff, ↓reduceIte, reduceCtorEq, Nat.reduceAdd, Nat.reduceMul, Int.reduceToNat, List.reduceReplicate, Nat.reduceLeDiff, Nat.reduceLT, Int.reduceLT, Int.reduceLE, Int.reduceEq] | with_reducible refine pickB_f ?_ | with_reducible refine giv_intro fun _h => ?_ | with_reducible refine alt_intro ?_ fun _h => ?_ | with_reducible refine pickD_nil ?_ | (with_reducible refine brc (fun _h => ?_) fun _h => ?_) <;> first | (exfalso; omega) | simp only [decide_eq_false _h] | simp only [(_h : (_ : Bool) = _)] | simp only [decide_eq_true _h] | skip)
  (refine loopC hS [0, 1, 7] (by simp only [go_sem, Nat.reduceEqDiff, ↓reduceIte, reduceCtorEq, Nat.reduceAdd, Nat.reduceMul, Int.reduceToNat, List.reduceReplicate, Nat.reduceLeDiff, Nat.reduceLT, Int.reduceLT, Int.reduceLE, Int.reduceEq]; try rfl) (fun (i : Nat) => [(8, intA i)]) (fun (i : Nat) => []) (fun (i : Nat) => i ≤ l.length ∧ l.findIdx? (fun x => decide (v = x)) = ((l.drop i).findIdx? (fun x => decide (v = x))).map (· + i)) (fun (i : Nat) => l.length - i) (0) ?_ (by intro s; first | (simp only [List.length_cons, List.length_nil]; done) | rfl | (rcases s with ⟨_, _⟩; rfl) | (rcases s with ⟨_, _, _⟩; rfl) | (rcases s with ⟨_, _, _, _⟩; rfl) | (rcases s with ⟨_, _, _, _, _⟩; rfl)) ?_)
  · simp (maxSteps := 900000) (disch := omega) only [go_sem, Nat.reduceEqDiff, ↓reduceIte, reduceCtorEq, Nat.reduceAdd, Nat.reduceMul, Int.reduceToNat, List.reduceReplicate, Nat.reduceLeDiff, Nat.reduceLT, Int.reduceLT, Int.reduceLE, Int.reduceEq]; simp
  rintro i ⟨hi, hI⟩
  repeat' (first | with_reducible refine inw ?_ | simp (maxSteps := 900000) (disch := omega) only [go_sem, Nat.reduceEqDiff, ↓reduceIte, reduceCtorEq, Nat.reduceAdd, Nat.reduceMul, Int.reduceToNat, List.reduceReplicate, Nat.reduceLeDiff, Nat.reduceLT, Int.reduceLT, Int.reduceLE, Int.reduceEq] | with_reducible refine pickB_f ?_ | with_reducible refine giv_intro fun _h => ?_ | with_reducible refine alt_intro ?_ fun _h => ?_ | with_reducible refine pickD_nil ?_ | (with_reducible refine brc (fun _h => ?_) fun _h => ?_) <;> first | (exfalso; omega) | simp only [decide_eq_false _h] | simp only [(_h : (_ : Bool) = _)] | simp only [decide_eq_true _h] | skip)
  · rw [hI, nth_drop (by assumption)]
    simp_all [List.findIdx?_cons]
  · refine ⟨i + 1, ⟨by omega, by omega, ?_⟩, by omega⟩
    rw [hI, nth_drop (by assumption), List.findIdx?_cons]
    simp_all [Function.comp_def, Nat.add_comm, Nat.add_left_comm]
  · rw [hI, drop_end (by omega)]; rfl
/-- slices.Contains[[]string,string]: 2 parameters, 0 captured -/
def s85 : SC := .seq (.reg [o1 4 (.mv (cB false))])
  (.seq (.reg [o1 5 (.mv (.t 0)),
    o1 6 (.mv (.t 1)),
    o1 7 (.call (.f 97) [(.t 5), (.t 6)]),
    o1 8 (.bin .geq (.t 7) (cI 0)),
    o1 4 (.mv (.t 8))])
   (.ret))
theorem s85_ok : lookF Try.prog 85 = some (s85, 9, [.tmp 4]) := by kernel_rfl
theorem Contains_ok (l : List Str) (v : Str) : Fn P 85 [sl l, strA v] (boolA (l.any (fun x => decide (v = x)))) := by
  (refine fn_look s85_ok (by simp) (by intro k; simp only [go_sem, Nat.reduceEqDiff, ↓reduceIte, reduceCtorEq, Nat.reduceAdd, Nat.reduceMul, Int.reduceToNat, List.reduceReplicate, Nat.reduceLeDiff, Nat.reduceLT, Int.reduceLT, Int.reduceLE, Int.reduceEq]) fun S hS => cwp_sound _ _ _ _ ?_; simp (maxSteps := 900000) (disch := omega) only [s85, go_sem, Nat.reduceEqDiff, ↓reduceIte, reduceCtorEq, Nat.reduceAdd, Nat.reduceMul, Int.reduceToNat, List.reduceReplicate, Nat.reduceLeDiff, Nat.reduceLT, Int.reduceLT, Int.reduceLE, Int.reduceEq])
  repeat' (first | with_reducible refine inw ?_ | simp (maxSteps := 900000) (disch := omega) only [go_sem, Nat.reduceEqDiff, ↓reduceIte, reduceCtorEq, Nat.reduceAdd, Nat.reduceMul, Int.reduceToNat, List.reduceReplicate, Nat.reduceLeDiff, Nat.reduceLT, Int.reduceLT, Int.reduceLE, Int.reduceEq] | (with_reducible apply call (Index_ok l v)); (focus simp (maxSteps := 900000) (disch := omega) only [go_sem, Nat.reduceEqDiff, ↓reduceIte, reduceCtorEq, Nat.reduceAdd, Nat.reduceMul, Int.reduceToNat, List.reduceReplicate, Nat.reduceLeDiff, Nat.reduceLT, Int.reduceLT, Int.reduceLE, Int.reduceEq] <;> rfl) | with_reducible refine pickB_f ?_ | with_reducible refine giv_intro fun _h => ?_ | with_reducible refine alt_intro ?_ fun _h => ?_ | with_reducible refine pickD_nil ?_ | (with_reducible refine brc (fun _h => ?_) fun _h => ?_) <;> first | (exfalso; omega) | simp only [decide_eq_false _h] | simp only [(_h : (_ : Bool) = _)] | simp only [decide_eq_true _h] | skip)
  exact findIdx_any'

theorem tset {α : Type} {l : List α} {i : Nat} (h : i < l.length) (x : α) : l.take i ++ [x] ++ l.drop (i + 1) = l.set i x := by
  rw [List.set_eq_take_append_cons_drop, if_pos h]; simp
def ordT (a b : Str) : Int := if ltB a b = true then -1 else if ltB b a = true then 1 else 0
theorem orderL_cons (a b : Str) (x y : List Str) : orderL (a :: x) (b :: y) = if ordT a b ≠ 0 then ordT a b else orderL x y := by
  rw [orderL]; unfold ordT
  cases h1 : ltB a b <;> cases h2 : ltB b a <;> simp
/-- cmp.isNaN[string]: 1 parameters, 0 captured -/
def s98 : SC := .seq (.reg [o1 2 (.mv (cB false))])
  (.seq (.reg [o1 3 (.mv (.t 0)),
    o1 4 (.mv (.t 0)),
    o1 5 (.bin .neq (.t 3) (.t 4)),
    o1 2 (.mv (.t 5))])
   (.ret))
theorem s98_ok : lookF Try.prog 98 = some (s98, 6, [.tmp 2]) := by kernel_rfl
theorem isNaNS_ok (a : Str) : Fn P 98 [strA a] (boolA false) := by
  (refine fn_look s98_ok (by simp) (by intro k; simp only [go_sem, Nat.reduceEqDiff, ↓reduceIte, reduceCtorEq, Nat.reduceAdd, Nat.reduceMul, Int.reduceToNat, List.reduceReplicate, Nat.reduceLeDiff, Nat.reduceLT, Int.reduceLT, Int.reduceLE, Int.reduceEq]) fun S hS => cwp_sound _ _ _ _ ?_; simp (maxSteps := 900000) (disch := omega) only [s98, go_sem, Nat.reduceEqDiff, ↓reduceIte, reduceCtorEq, Nat.reduceAdd, Nat.reduceMul, Int.reduceToNat, List.reduceReplicate, Nat.reduceLeDiff, Nat.reduceLT, Int.reduceLT, Int.reduceLE, Int.reduceEq])
  repeat' (first | with_reducible refine inw ?_ | simp (maxSteps := 900000) (disch := omega) only [go_sem, Nat.reduceEqDiff, ↓reduceIte, reduceCtorEq, Nat.reduceAdd, Nat.reduceMul, Int.reduceToNat, List.reduceReplicate, Nat.reduceLeDiff, Nat.reduceLT, Int.reduceLT, Int.reduceLE, Int.reduceEq] | with_reducible refine pickB_f ?_ | with_reducible refine giv_intro fun _h => ?_ | with_reducible refine alt_intro ?_ fun _h => ?_ | with_reducible refine pickD_nil ?_ | (with_reducible refine brc (fun _h => ?_) fun _h => ?_) <;> first | (exfalso; omega) | simp only [decide_eq_false _h] | simp only [(_h : (_ : Bool) = _)] | simp only [decide_eq_true _h] | skip)
/-- cmp.Compare[string]: 2 parameters, 0 captured -/
def s86 : SC := .seq (.reg [o1 4 (.mv (cI 0))])
  (.seq (.reg [o1 7 (.mv (.t 0)),
    o1 8 (.call (.f 98) [(.t 7)]),
    o1 5 (.mv (.t 8))])
   (.seq (.reg [o1 9 (.mv (.t 1)),
     o1 10 (.call (.f 98) [(.t 9)]),
     o1 6 (.mv (.t 10))])
    (.seq (.seq (.reg [o1 11 (.mv (.t 5))])
      (.cond (.t 11) (.seq (.seq (.reg [o1 12 (.mv (.t 6))])
         (.cond (.t 12) (.seq (.reg [o1 4 (.mv (cI 0))])
           (.ret)) (.skip)))
        (.seq (.reg [o1 4 (.mv (cI (-1)))])
         (.ret))) (.skip)))
     (.seq (.seq (.reg [o1 13 (.mv (.t 6))])
       (.cond (.t 13) (.seq (.reg [o1 4 (.mv (cI 1))])
         (.ret)) (.skip)))
      (.seq (.seq (.reg [o1 14 (.mv (.t 0)),
         o1 15 (.mv (.t 1)),
         o1 16 (.bin .lss (.t 14) (.t 15))])
        (.cond (.t 16) (.seq (.reg [o1 4 (.mv (cI (-1)))])
          (.ret)) (.skip)))
       (.seq (.seq (.reg [o1 17 (.mv (.t 0)),
          o1 18 (.mv (.t 1)),
          o1 19 (.bin .gtr (.t 17) (.t 18))])
         (.cond (.t 19) (.seq (.reg [o1 4 (.mv (cI 1))])
           (.ret)) (.skip)))
        (.seq (.reg [o1 4 (.mv (cI 0))])
         (.ret))))))))
theorem s86_ok : lookF Try.prog 86 = some (s86, 20, [.tmp 4]) := by kernel_rfl
theorem cmpS_ok (a b : Str) : Fn P 86 [strA a, strA b] (intA (ordT a b)) := by
  have c1 := isNaNS_ok a
  have c2 := isNaNS_ok b
  (refine fn_look s86_ok (by simp) (by intro k; simp only [go_sem, Nat.reduceEqDiff, ↓reduceIte, reduceCtorEq, Nat.reduceAdd, Nat.reduceMul, Int.reduceToNat, List.reduceReplicate, Nat.reduceLeDiff, Nat.reduceLT, Int.reduceLT, Int.reduceLE, Int.reduceEq]) fun S hS => cwp_sound _ _ _ _ ?_; simp (maxSteps := 900000) (disch := omega) only [s86, go_sem, Nat.reduceEqDiff, ↓reduceIte, reduceCtorEq, Nat.reduceAdd, Nat.reduceMul, Int.reduceToNat, List.reduceReplicate, Nat.reduceLeDiff, Nat.reduceLT, Int.reduceLT, Int.reduceLE, Int.reduceEq])
  repeat' (first | with_reducible refine inw ?_ | simp (maxSteps := 900000) (disch := omega) only [go_sem, Nat.reduceEqDiff, ↓reduceIte, reduceCtorEq, Nat.reduceAdd, Nat.reduceMul, Int.reduceToNat, List.reduceReplicate, Nat.reduceLeDiff, Nat.reduceLT, Int.reduceLT, Int.reduceLE, Int.reduceEq] | (with_reducible apply call (c1)); (focus simp (maxSteps := 900000) (disch := omega) only [go_sem, Nat.reduceEqDiff, ↓reduceIte, reduceCtorEq, Nat.reduceAdd, Nat.reduceMul, Int.reduceToNat, List.reduceReplicate, Nat.reduceLeDiff, Nat.reduceLT, Int.reduceLT, Int.reduceLE, Int.reduceEq] <;> rfl) | (with_reducible apply call (c2)); (focus simp (maxSteps := 900000) (disch := omega) only [go_sem, Nat.reduceEqDiff, ↓reduceIte, reduceCtorEq, Nat.reduceAdd, Nat.reduceMul, Int.reduceToNat, List.reduceReplicate, Nat.reduceLeDiff, Nat.reduceLT, Int.reduceLT, Int.reduceLE, Int.reduceEq] <;> rfl) | with_reducible refine pickB_f ?_ | with_reducible refine giv_intro fun _h => ?_ | with_reducible refine alt_intro ?_ fun _h => ?_ | with_reducible refine pickD_nil ?_ | (with_reducible refine brc (fun _h => ?_) fun _h => ?_) <;> first | (exfalso; omega) | simp only [decide_eq_false _h] | simp only [(_h : (_ : Bool) = _)] | simp only [decide_eq_true _h] | skip)
  · rw [ordT, if_pos _h]
  · rename_i h0
    rw [ordT, if_neg (by rw [h0]; decide), if_pos _h]
  · rename_i h0
    rw [ordT, if_neg (by rw [h0]; decide), if_neg (by rw [_h]; decide)]
/-- slices.Compare[[]string,string]: 2 parameters, 0 captured -/
def s48 : SC := .seq (.reg [o1 4 (.mv (cI 0))])
  (.seq (.seq (.reg [o1 9 (.mv (.t 0)),
     o1 10 (.lenL (.t 9)),
     o1 11 (.mv (cI 0))])
    (.block 0 (.loop (.seq (.reg [o1 12 (.bin .lss (.t 11) (.t 10))])
       (.seq (.cond (.t 12) (.skip) (.exit 0))
        (.seq (.block 1 (.seq (.reg [o1 13 (.mv (.t 11)),
            o1 14 (.iaddr 1 (.t 9) (.t 11)),
            o1 15 (.load none (.t 14)),
            o1 5 (.mv (.t 13)),
            o1 6 (.mv (.t 15))])
           (.seq (.seq (.reg [o1 16 (.mv (.t 5)),
              o1 17 (.mv (.t 1)),
              o1 18 (.lenL (.t 17)),
              o1 19 (.bin .geq (.t 16) (.t 18))])
             (.cond (.t 19) (.seq (.reg [o1 4 (.mv (cI 1))])
               (.ret)) (.skip)))
            (.seq (.reg [o1 20 (.mv (.t 1)),
              o1 21 (.mv (.t 5)),
              o1 22 (.iaddr 1 (.t 20) (.t 21)),
              o1 23 (.load none (.t 22)),
              o1 7 (.mv (.t 23))])
             (.seq (.reg [o1 24 (.mv (.t 6)),
               o1 25 (.mv (.t 7)),
               o1 26 (.call (.f 86) [(.t 24), (.t 25)]),
               o1 8 (.mv (.t 26))])
              (.seq (.reg [o1 27 (.mv (.t 8)),
                o1 28 (.bin .neq (.t 27) (cI 0))])
               (.cond (.t 28) (.seq (.reg [o1 29 (.mv (.t 8)),
                  o1 4 (.mv (.t 29))])
                 (.ret)) (.skip))))))))
         (.reg [o1 30 (.bin .add (.t 11) (cI 1)),
          o1 11 (.mv (.t 30))])))))))
   (.seq (.seq (.reg [o1 31 (.mv (.t 0)),
      o1 32 (.lenL (.t 31)),
      o1 33 (.mv (.t 1)),
      o1 34 (.lenL (.t 33)),
      o1 35 (.bin .lss (.t 32) (.t 34))])
     (.cond (.t 35) (.seq (.reg [o1 4 (.mv (cI (-1)))])
       (.ret)) (.skip)))
    (.seq (.reg [o1 4 (.mv (cI 0))])
     (.ret))))
theorem s48_ok : lookF Try.prog 48 = some (s48, 36, [.tmp 4]) := by kernel_rfl
theorem slCompare_ok (a b : List Str) (ha : a.length ≤ 8796093022208) (hb : b.length ≤ 8796093022208) : Fn P 48 [sl a, sl b] (intA (orderL a b)) := by
  (refine fn_look s48_ok (by simp) (by intro k; simp only [go_sem, Nat.reduceEqDiff, ↓reduceIte, reduceCtorEq, Nat.reduceAdd, Nat.reduceMul, Int.reduceToNat, List.reduceReplicate, Nat.reduceLeDiff, Nat.reduceLT, Int.reduceLT, Int.reduceLE, Int.reduceEq]) fun S hS => cwp_sound _ _ _ _ ?_; simp (maxSteps := 900000) (disch := omega) only [s48, go_sem, Nat.reduceEqDiff, ↓reduceIte, reduceCtorEq, Nat.reduceAdd, Nat.reduceMul, Int.reduceToNat, List.reduceReplicate, Nat.reduceLeDiff, Nat.reduceLT, Int.reduceLT, Int.reduceLE, Int.reduceEq])
  repeat' (first | with_reducible refine inw ?_ | simp (maxSteps := 900000) (disch := omega) only [go_sem, Nat.reduceEqDiff, ↓reduceIte, reduceCtorEq, Nat.reduceAdd, Nat.reduceMul, Int.reduceToNat, List.reduceReplicate, Nat.reduceLeDiff, Nat.reduceLT, Int.reduceLT, Int.reduceLE, Int.reduceEq] | with_reducible refine pickB_f ?_ | with_reducible refine giv_intro fun _h => ?_ | with_reducible refine alt_intro ?_ fun _h => ?_ | with_reducible refine pickD_nil ?_ | (with_reducible refine brc (fun _h => ?_) fun _h => ?_) <;> first | (exfalso; omega) | simp only [decide_eq_false _h] | simp only [(_h : (_ : Bool) = _)] | simp only [decide_eq_true _h] | skip)
  (refine loopC hS [0, 1, 9, 10] (by simp only [go_sem, Nat.reduceEqDiff, ↓reduceIte, reduceCtorEq, Nat.reduceAdd, Nat.reduceMul, Int.reduceToNat, List.reduceReplicate, Nat.reduceLeDiff, Nat.reduceLT, Int.reduceLT, Int.reduceLE, Int.reduceEq]; try rfl) (fun (i : Nat) => [(11, intA i)]) (fun (i : Nat) => []) (fun (i : Nat) => i ≤ a.length ∧ i ≤ b.length ∧ orderL a b = orderL (a.drop i) (b.drop i)) (fun (i : Nat) => a.length - i) (0) ?_ (by intro s; first | (simp only [List.length_cons, List.length_nil]; done) | rfl | (rcases s with ⟨_, _⟩; rfl) | (rcases s with ⟨_, _, _⟩; rfl) | (rcases s with ⟨_, _, _, _⟩; rfl) | (rcases s with ⟨_, _, _, _, _⟩; rfl)) ?_)
  · simp (maxSteps := 900000) (disch := omega) only [go_sem, Nat.reduceEqDiff, ↓reduceIte, reduceCtorEq, Nat.reduceAdd, Nat.reduceMul, Int.reduceToNat, List.reduceReplicate, Nat.reduceLeDiff, Nat.reduceLT, Int.reduceLT, Int.reduceLE, Int.reduceEq]; exact ⟨Nat.zero_le _, Nat.zero_le _⟩
  · rintro i ⟨h1, h2, h3⟩
    replace h1 : i ≤ a.length := h1
    replace h2 : i ≤ b.length := h2
    replace h3 : orderL a b = orderL (a.drop i) (b.drop i) := h3
    by_cases hi : i < a.length
    · rw [nth_drop hi] at h3
      by_cases hj : i < b.length
      · rw [nth_drop hj, orderL_cons] at h3
        have c1 := cmpS_ok (nth a i) (nth b i)
        repeat' (first | with_reducible refine inw ?_ | simp (maxSteps := 900000) (disch := omega) only [go_sem, Nat.reduceEqDiff, ↓reduceIte, reduceCtorEq, Nat.reduceAdd, Nat.reduceMul, Int.reduceToNat, List.reduceReplicate, Nat.reduceLeDiff, Nat.reduceLT, Int.reduceLT, Int.reduceLE, Int.reduceEq] | (with_reducible apply call (c1)); (focus simp (maxSteps := 900000) (disch := omega) only [go_sem, Nat.reduceEqDiff, ↓reduceIte, reduceCtorEq, Nat.reduceAdd, Nat.reduceMul, Int.reduceToNat, List.reduceReplicate, Nat.reduceLeDiff, Nat.reduceLT, Int.reduceLT, Int.reduceLE, Int.reduceEq] <;> rfl) | with_reducible refine pickB_f ?_ | with_reducible refine giv_intro fun _h => ?_ | with_reducible refine alt_intro ?_ fun _h => ?_ | with_reducible refine pickD_nil ?_ | (with_reducible refine brc (fun _h => ?_) fun _h => ?_) <;> first | (exfalso; omega) | simp only [decide_eq_false _h] | simp only [(_h : (_ : Bool) = _)] | simp only [decide_eq_true _h] | skip)
        · rw [h3, if_pos _h]
        · rw [if_neg (by omega)] at h3
          exact ⟨i + 1, ⟨by omega, by omega, by omega, h3⟩, rfl⟩
      · rw [List.drop_of_length_le (i := i) (by omega), orderL] at h3
        repeat' (first | with_reducible refine inw ?_ | simp (maxSteps := 900000) (disch := omega) only [go_sem, Nat.reduceEqDiff, ↓reduceIte, reduceCtorEq, Nat.reduceAdd, Nat.reduceMul, Int.reduceToNat, List.reduceReplicate, Nat.reduceLeDiff, Nat.reduceLT, Int.reduceLT, Int.reduceLE, Int.reduceEq] | with_reducible refine pickB_f ?_ | with_reducible refine giv_intro fun _h => ?_ | with_reducible refine alt_intro ?_ fun _h => ?_ | with_reducible refine pickD_nil ?_ | (with_reducible refine brc (fun _h => ?_) fun _h => ?_) <;> first | (exfalso; omega) | simp only [decide_eq_false _h] | simp only [(_h : (_ : Bool) = _)] | simp only [decide_eq_true _h] | skip)
        exact h3.symm
    · rw [show a.drop i = [] from List.drop_of_length_le (by omega)] at h3
      repeat' (first | with_reducible refine inw ?_ | simp (maxSteps := 900000) (disch := omega) only [go_sem, Nat.reduceEqDiff, ↓reduceIte, reduceCtorEq, Nat.reduceAdd, Nat.reduceMul, Int.reduceToNat, List.reduceReplicate, Nat.reduceLeDiff, Nat.reduceLT, Int.reduceLT, Int.reduceLE, Int.reduceEq] | with_reducible refine pickB_f ?_ | with_reducible refine giv_intro fun _h => ?_ | with_reducible refine alt_intro ?_ fun _h => ?_ | with_reducible refine pickD_nil ?_ | (with_reducible refine brc (fun _h => ?_) fun _h => ?_) <;> first | (exfalso; omega) | simp only [decide_eq_false _h] | simp only [(_h : (_ : Bool) = _)] | simp only [decide_eq_true _h] | skip)
      · rw [h3, nth_drop (show i < b.length by omega)]; rfl
      · rw [h3, List.drop_of_length_le (show b.length ≤ i by omega)]; rfl
end Go.Proofs.Ytfihpbeihlpfcaa.Ev

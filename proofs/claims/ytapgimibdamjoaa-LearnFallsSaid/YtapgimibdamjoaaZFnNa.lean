/- Names, words, changes: what they may be; their order; what stands at a place. -/
import Derived.Test.YtapgimibdamjoaaZEvU
import Derived.Test.YtapgimibdamjoaaZEvX
import Derived.Test.YtapgimibdamjoaaProg
import Derived.KernelRfl
set_option linter.unusedVariables false
set_option linter.unusedSimpArgs false
namespace Go.Proofs.Ytapgimibdamjoaa.Ev
open Go Go.Proofs
noncomputable abbrev P : Program := Try.prog
abbrev Str := ByteArray
abbrev Change := Str × Str × Int × Str
abbrev Lesson := List Str × List Str × List Str

theorem findIdx_anyG {α : Type} {l : List α} {p : α → Bool} : decide (0 ≤ (match l.findIdx? p with | some i => (i : Int) | none => -1)) = l.any p := by
  cases h : l.findIdx? p with
  | none => have := List.findIdx?_eq_none_iff.1 h; simp; simpa using this
  | some i =>
    obtain ⟨h1, h2, _⟩ := List.findIdx?_eq_some_iff_getElem.1 h
    have : l.any p = true := List.any_eq_true.2 ⟨l[i], List.getElem_mem h1, h2⟩
    rw [this]; simp
theorem size_zero {s : Str} : s = ⟨#[]⟩ ↔ s.size = 0 := by
  constructor
  · rintro rfl; rfl
  · intro h
    cases s with
    | mk d =>
      have : d.size = 0 := h
      rw [Array.size_eq_zero_iff] at this
      rw [this]
theorem drop_end {α : Type} {l : List α} {i : Nat} (h : l.length ≤ i) : l.drop i = [] := List.drop_eq_nil_of_le h

def letB (b : Int) : Bool := decide (97 ≤ b ∧ b ≤ 122 ∨ 65 ≤ b ∧ b ≤ 90)
def nameCh (s : Str) (i : Nat) : Bool := letB (byteAt s i) || decide (48 ≤ byteAt s i ∧ byteAt s i ≤ 57 ∧ i ≠ 0)
def allCh (s : Str) : Bool := decide (∀ i, i < s.size → nameCh s i = true)
def nameB (s : Str) : Bool := allCh s && (decide (1 ≤ s.size) && decide (s.size ≤ 12))
theorem allCh_no {s : Str} {i : Nat} (h1 : i < s.size) (h2 : nameCh s i = false) : allCh s = false := decide_eq_false fun h => by have := h i h1; rw [h2] at this; cases this
theorem allCh_yes {s : Str} {i : Nat} (h1 : ¬ i < s.size) (h2 : ∀ j, j < i → nameCh s j = true) : allCh s = true := decide_eq_true fun j hj => h2 j (by omega)
theorem allCh_step {s : Str} {i : Nat} (h : ∀ j, j < i → nameCh s j = true) (h2 : nameCh s i = true) : ∀ j, j < i + 1 → nameCh s j = true := fun j hj => by
  by_cases e : j = i
  · subst e; exact h2
  · exact h j (by omega)
theorem or32 {b : Int} (h : 0 ≤ b ∧ b ≤ 255) : letB b = decide (97 ≤ bits .or .u8 b 32 ∧ bits .or .u8 b 32 ≤ 122) := by
  have : ∀ n : Fin 256, letB (n.val : Int) = decide (97 ≤ bits .or .u8 (n.val : Int) 32 ∧ bits .or .u8 (n.val : Int) 32 ≤ 122) := by decide +kernel
  have h2 := this ⟨b.toNat, by omega⟩
  have e : (b.toNat : Int) = b := by omega
  simp only [e] at h2
  exact h2
theorem allN_step {p : Nat → Prop} {i : Nat} (h : ∀ j, j < i → p j) (h2 : p i) : ∀ j, j < i + 1 → p j := fun j hj => by
  by_cases e : j = i
  · subst e; exact h2
  · exact h j (by omega)
/-- ablaut/learn.isName: 1 parameters, 0 captured -/
def s37 : SC := .seq (.reg [o1 2 (.mv (cB false))])
  (.seq (.seq (.reg [o1 5 (.mv (.t 0)),
     o1 6 (.lenS (.t 5)),
     o1 7 (.mv (cI 0))])
    (.block 0 (.loop (.seq (.reg [o1 8 (.bin .lss (.t 7) (.t 6))])
       (.seq (.cond (.t 8) (.skip) (.exit 0))
        (.seq (.block 1 (.seq (.reg [o1 9 (.mv (.t 7)),
            o1 3 (.mv (.t 9))])
           (.seq (.reg [o1 10 (.mv (.t 0)),
             o1 11 (.mv (.t 3)),
             o1 12 (.ixs (.t 10) (.t 11)),
             o1 13 (.bin .or (.t 12) (.c (.int .u8 32))),
             o1 4 (.mv (.t 13))])
            (.seq (.reg [o1 14 (.mv (.t 4)),
              o1 15 (.bin .lss (.t 14) (.c (.int .u8 97))),
              o1 16 (.mv (.t 15)),
              oF 17 (.mv (.t 4)) 16,
              oF 18 (.bin .gtr (.t 17) (.c (.int .u8 122))) 16,
              o1 19 (.pick (.t 16) (cB true) (.t 18)),
              o1 20 (.mv (.t 19)),
              oT 21 (.mv (.t 3)) 20,
              oT 22 (.bin .eql (.t 21) (cI 0)) 20,
              oT 23 (.mv (.t 22)) 20,
              oF 24 (.mv (.t 0)) 23,
              oF 25 (.mv (.t 3)) 23,
              oF 26 (.ixs (.t 24) (.t 25)) 23,
              oF 27 (.bin .lss (.t 26) (.c (.int .u8 48))) 23,
              oT 28 (.pick (.t 23) (cB true) (.t 27)) 20,
              oT 29 (.mv (.t 28)) 20,
              oF 30 (.mv (.t 0)) 29,
              oF 31 (.mv (.t 3)) 29,
              oF 32 (.ixs (.t 30) (.t 31)) 29,
              oF 33 (.bin .gtr (.t 32) (.c (.int .u8 57))) 29,
              oT 34 (.pick (.t 29) (cB true) (.t 33)) 20,
              o1 35 (.pick (.t 20) (.t 34) (cB false))])
             (.cond (.t 35) (.seq (.reg [o1 2 (.mv (cB false))])
               (.ret)) (.skip))))))
         (.reg [o1 36 (.bin .add (.t 7) (cI 1)),
          o1 7 (.mv (.t 36))])))))))
   (.seq (.reg [o1 37 (.mv (.t 0)),
     o1 38 (.bin .neq (.t 37) (.c (.string ⟨#[]⟩))),
     o1 39 (.mv (.t 38)),
     oT 40 (.mv (.t 0)) 39,
     oT 41 (.lenS (.t 40)) 39,
     oT 42 (.bin .leq (.t 41) (cI 12)) 39,
     o1 43 (.pick (.t 39) (.t 42) (cB false)),
     o1 2 (.mv (.t 43))])
    (.ret)))
theorem s37_ok : lookF Try.prog 37 = some (s37, 44, [.tmp 2]) := by kernel_rfl
theorem isName_ok (s : Str) (hs : s.size ≤ 4611686018427387904) : Fn P 37 [strA s] (boolA (nameB s)) := by
  (refine fn_look s37_ok (by simp) (by intro k; simp only [go_sem, Nat.reduceEqDiff, ↓reduceIte, reduceCtorEq, Nat.reduceAdd, Nat.reduceMul, Int.reduceToNat, List.reduceReplicate, Nat.reduceLeDiff, Nat.reduceLT, Int.reduceLT, Int.reduceLE, Int.reduceEq]) fun S hS => cwp_sound _ _ _ _ ?_; simp (maxSteps := 900000) (disch := omega) only [s37, go_sem, Nat.reduceEqDiff, ↓reduceIte, reduceCtorEq, Nat.reduceAdd, Nat.reduceMul, Int.reduceToNat, List.reduceReplicate, Nat.reduceLeDiff, Nat.reduceLT, Int.reduceLT, Int.reduceLE, Int.reduceEq])
  (refine loopC hS [0, 6] (by simp only [go_sem, Nat.reduceEqDiff, ↓reduceIte, reduceCtorEq, Nat.reduceAdd, Nat.reduceMul, Int.reduceToNat, List.reduceReplicate, Nat.reduceLeDiff, Nat.reduceLT, Int.reduceLT, Int.reduceLE, Int.reduceEq]; try rfl) (fun (i : Nat) => [(7, intA i)]) (fun (i : Nat) => []) (fun (i : Nat) => i ≤ s.size ∧ ∀ j, j < i → nameCh s j = true) (fun (i : Nat) => s.size - i) (0) ?h01 ?hn1 ?rd1; case hn1 => (intro s; first | rfl | (rcases s with ⟨_, _⟩; rfl) | (rcases s with ⟨_, _, _⟩; rfl) | (rcases s with ⟨_, _, _, _⟩; rfl) | (rcases s with ⟨_, _, _, _, _⟩; rfl)))
  · simp (maxSteps := 900000) (disch := omega) only [go_sem, Nat.reduceEqDiff, ↓reduceIte, reduceCtorEq, Nat.reduceAdd, Nat.reduceMul, Int.reduceToNat, List.reduceReplicate, Nat.reduceLeDiff, Nat.reduceLT, Int.reduceLT, Int.reduceLE, Int.reduceEq]; simp
  rintro i ⟨hi, hall⟩
  replace hi : i ≤ s.size := hi
  replace hall : ∀ j, j < i → nameCh s j = true := hall
  have hb := byteAt_range s i
  have hc : nameCh s i = true ↔ (97 ≤ bits .or .u8 (byteAt s i) 32 ∧ bits .or .u8 (byteAt s i) 32 ≤ 122) ∨ (48 ≤ byteAt s i ∧ byteAt s i ≤ 57 ∧ i ≠ 0) := by
    rw [nameCh, or32 hb]; simp only [Bool.or_eq_true, decide_eq_true_eq]
  by_cases hil : i < s.size
  · have hn : ¬((97 ≤ bits .or .u8 (byteAt s i) 32 ∧ bits .or .u8 (byteAt s i) 32 ≤ 122) ∨ (48 ≤ byteAt s i ∧ byteAt s i ≤ 57 ∧ i ≠ 0)) → nameB s = false := fun h => by
      rw [nameB, allCh_no hil (by rw [← Bool.not_eq_true]; exact fun h2 => h (hc.1 h2))]; rfl
    repeat' (first | with_reducible refine inw ?_ | simp (maxSteps := 900000) (disch := omega) only [go_sem, Nat.reduceEqDiff, ↓reduceIte, reduceCtorEq, Nat.reduceAdd, Nat.reduceMul, Int.reduceToNat, List.reduceReplicate, Nat.reduceLeDiff, Nat.reduceLT, Int.reduceLT, Int.reduceLE, Int.reduceEq] | with_reducible refine giv_intro fun _h => ?_ | with_reducible refine alt_intro ?_ fun _h => ?_ | with_reducible refine pickD_nil ?_ | (with_reducible refine brc (fun _h => ?_) fun _h => ?_) <;> first | (exfalso; omega) | simp only [decide_eq_false _h] | simp only [(_h : (_ : Bool) = _)] | simp only [decide_eq_true _h] | skip)
    all_goals first
      | exact ⟨i + 1, ⟨by omega, by omega, allCh_step hall (hc.2 (by omega))⟩, by omega⟩
      | exact (hn (by omega)).symm
  · have he : nameB s = (decide (1 ≤ s.size) && decide (s.size ≤ 12)) := by rw [nameB, allCh_yes hil hall, Bool.true_and]
    rw [he]
    have hz := size_zero (s := s)
    repeat' (first | with_reducible refine inw ?_ | simp (maxSteps := 900000) (disch := omega) only [go_sem, Nat.reduceEqDiff, ↓reduceIte, reduceCtorEq, Nat.reduceAdd, Nat.reduceMul, Int.reduceToNat, List.reduceReplicate, Nat.reduceLeDiff, Nat.reduceLT, Int.reduceLT, Int.reduceLE, Int.reduceEq] | with_reducible refine giv_intro fun _h => ?_ | with_reducible refine alt_intro ?_ fun _h => ?_ | with_reducible refine pickD_nil ?_ | (with_reducible refine brc (fun _h => ?_) fun _h => ?_) <;> first | (exfalso; omega) | simp only [decide_eq_false _h] | simp only [(_h : (_ : Bool) = _)] | simp only [decide_eq_true _h] | skip)
    · have : s.size ≠ 0 := fun h => _h (hz.2 h)
      rw [Bool.eq_iff_iff]; simp; omega
    · rw [decide_eq_false (p := 1 ≤ s.size) (by have := hz.1 _h; omega)]; rfl
theorem allN_no {p : Nat → Prop} {n i : Nat} (h1 : i < n) (h2 : ¬p i) [Decidable (∀ i, i < n → p i)] : decide (∀ i, i < n → p i) = false := decide_eq_false fun h => h2 (h i h1)
theorem allN_yes {p : Nat → Prop} {n i : Nat} (h1 : ¬i < n) (h2 : ∀ j, j < i → p j) [Decidable (∀ i, i < n → p i)] : decide (∀ i, i < n → p i) = true := decide_eq_true fun j hj => h2 j (by omega)
def plainCh (s : Str) (i : Nat) : Bool := decide (33 ≤ byteAt s i) && decide (byteAt s i ≤ 126)
def plainB (s : Str) : Bool := decide (∀ i, i < s.size → plainCh s i = true) && decide (1 ≤ s.size)
theorem plain_ch {s : Str} {i : Nat} : plainCh s i = true ↔ 33 ≤ byteAt s i ∧ byteAt s i ≤ 126 := by simp [plainCh]
theorem plain_no {s : Str} {i : Nat} (h : i < s.size) (h2 : ¬(33 ≤ byteAt s i ∧ byteAt s i ≤ 126)) : false = plainB s := by
  rw [plainB, allN_no h (fun e => h2 (plain_ch.1 e))]; rfl
theorem plain_yes {s : Str} {i : Nat} (h : ¬ i < s.size) (h2 : ∀ j, j < i → 33 ≤ byteAt s j ∧ byteAt s j ≤ 126) {b : Bool} (hb : b = decide (1 ≤ s.size)) : b = plainB s := by
  rw [plainB, allN_yes h (fun j hj => plain_ch.2 (h2 j hj)), hb]; rfl
theorem ne_empty (s : Str) : decide (s ≠ ⟨#[]⟩) = decide (1 ≤ s.size) := by
  rw [Bool.eq_iff_iff, decide_eq_true_iff, decide_eq_true_iff, ne_eq, size_zero]; omega
/-- ablaut/learn.isPlain: 1 parameters, 0 captured -/
def s62 : SC := .seq (.reg [o1 2 (.mv (cB false))])
  (.seq (.seq (.reg [o1 4 (.mv (.t 0)),
     o1 5 (.lenS (.t 4)),
     o1 6 (.mv (cI 0))])
    (.block 0 (.loop (.seq (.reg [o1 7 (.bin .lss (.t 6) (.t 5))])
       (.seq (.cond (.t 7) (.skip) (.exit 0))
        (.seq (.block 1 (.seq (.reg [o1 8 (.mv (.t 6)),
            o1 3 (.mv (.t 8))])
           (.seq (.reg [o1 9 (.mv (.t 0)),
             o1 10 (.mv (.t 3)),
             o1 11 (.ixs (.t 9) (.t 10)),
             o1 12 (.bin .lss (.t 11) (.c (.int .u8 33))),
             o1 13 (.mv (.t 12)),
             oF 14 (.mv (.t 0)) 13,
             oF 15 (.mv (.t 3)) 13,
             oF 16 (.ixs (.t 14) (.t 15)) 13,
             oF 17 (.bin .gtr (.t 16) (.c (.int .u8 126))) 13,
             o1 18 (.pick (.t 13) (cB true) (.t 17))])
            (.cond (.t 18) (.seq (.reg [o1 2 (.mv (cB false))])
              (.ret)) (.skip)))))
         (.reg [o1 19 (.bin .add (.t 6) (cI 1)),
          o1 6 (.mv (.t 19))])))))))
   (.seq (.reg [o1 20 (.mv (.t 0)),
     o1 21 (.bin .neq (.t 20) (.c (.string ⟨#[]⟩))),
     o1 2 (.mv (.t 21))])
    (.ret)))
theorem s62_ok : lookF Try.prog 62 = some (s62, 22, [.tmp 2]) := by kernel_rfl
theorem isPlain_ok (s : Str) (hs : s.size ≤ 4611686018427387904) : Fn P 62 [strA s] (boolA (plainB s)) := by
  (refine fn_look s62_ok (by simp) (by intro k; simp only [go_sem, Nat.reduceEqDiff, ↓reduceIte, reduceCtorEq, Nat.reduceAdd, Nat.reduceMul, Int.reduceToNat, List.reduceReplicate, Nat.reduceLeDiff, Nat.reduceLT, Int.reduceLT, Int.reduceLE, Int.reduceEq]) fun S hS => cwp_sound _ _ _ _ ?_; simp (maxSteps := 900000) (disch := omega) only [s62, go_sem, Nat.reduceEqDiff, ↓reduceIte, reduceCtorEq, Nat.reduceAdd, Nat.reduceMul, Int.reduceToNat, List.reduceReplicate, Nat.reduceLeDiff, Nat.reduceLT, Int.reduceLT, Int.reduceLE, Int.reduceEq])
  (refine loopC hS [0, 5] (by simp only [go_sem, Nat.reduceEqDiff, ↓reduceIte, reduceCtorEq, Nat.reduceAdd, Nat.reduceMul, Int.reduceToNat, List.reduceReplicate, Nat.reduceLeDiff, Nat.reduceLT, Int.reduceLT, Int.reduceLE, Int.reduceEq]; try rfl) (fun (i : Nat) => [(6, intA i)]) (fun (i : Nat) => []) (fun (i : Nat) => i ≤ s.size ∧ ∀ j, j < i → 33 ≤ byteAt s j ∧ byteAt s j ≤ 126) (fun (i : Nat) => s.size - i) (0) ?h03 ?hn3 ?rd3; case hn3 => (intro s; first | rfl | (rcases s with ⟨_, _⟩; rfl) | (rcases s with ⟨_, _, _⟩; rfl) | (rcases s with ⟨_, _, _, _⟩; rfl) | (rcases s with ⟨_, _, _, _, _⟩; rfl)))
  · simp (maxSteps := 900000) (disch := omega) only [go_sem, Nat.reduceEqDiff, ↓reduceIte, reduceCtorEq, Nat.reduceAdd, Nat.reduceMul, Int.reduceToNat, List.reduceReplicate, Nat.reduceLeDiff, Nat.reduceLT, Int.reduceLT, Int.reduceLE, Int.reduceEq]; simp
  rintro i ⟨hi, hall⟩
  replace hi : i ≤ s.size := hi
  replace hall : ∀ j, j < i → 33 ≤ byteAt s j ∧ byteAt s j ≤ 126 := hall
  have hb := byteAt_range s i
  repeat' (first | with_reducible refine inw ?_ | simp (maxSteps := 900000) (disch := omega) only [go_sem, Nat.reduceEqDiff, ↓reduceIte, reduceCtorEq, Nat.reduceAdd, Nat.reduceMul, Int.reduceToNat, List.reduceReplicate, Nat.reduceLeDiff, Nat.reduceLT, Int.reduceLT, Int.reduceLE, Int.reduceEq] | with_reducible refine giv_intro fun _h => ?_ | with_reducible refine alt_intro ?_ fun _h => ?_ | with_reducible refine pickD_nil ?_ | (with_reducible refine brc (fun _h => ?_) fun _h => ?_) <;> first | (exfalso; omega) | simp only [decide_eq_false _h] | simp only [(_h : (_ : Bool) = _)] | simp only [decide_eq_true _h] | skip)
  all_goals first
    | exact ⟨i + 1, ⟨by omega, by omega, allN_step hall (by omega)⟩, by omega⟩
    | exact plain_no (by omega) (by omega)
    | exact plain_yes (by omega) hall (by rw [← ne_empty]; simp)
abbrev chA (c : Change) : AV := .agg [strA c.1, strA c.2.1, intA c.2.2.1, strA c.2.2.2]
abbrev SmC (c : Change) : Prop := c.1.size ≤ 4611686018427387904 ∧ c.2.1.size ≤ 4611686018427387904 ∧ c.2.2.2.size ≤ 4611686018427387904
def argB (c : Change) : Bool := if c.2.2.1 ≤ 5 then nameB c.2.2.2 else if c.2.2.1 ≤ 8 then plainB c.2.2.2 else decide (c.2.2.2 = ⟨#[]⟩)
/-- ablaut/learn.isArg: 1 parameters, 0 captured -/
def s38 : SC := .seq (.reg [o1 1 (.box 32 4 (.t 0)),
   o1 2 (.mv (cB false))])
  (.seq (.block 0 (.seq (.reg [o1 4 (.faddr 2 (.t 1)),
      o1 5 (.load none (.t 4)),
      o1 6 (.bin .leq (.t 5) (cI 5)),
      o1 3 (.mv (.t 6))])
     (.cond (.t 3) (.seq (.reg [o1 7 (.faddr 3 (.t 1)),
        o1 8 (.load none (.t 7)),
        o1 9 (.call (.f 37) [(.t 8)]),
        o1 2 (.mv (.t 9))])
       (.ret)) (.seq (.reg [o1 11 (.faddr 2 (.t 1)),
        o1 12 (.load none (.t 11)),
        o1 13 (.bin .leq (.t 12) (cI 8)),
        o1 10 (.mv (.t 13))])
       (.cond (.t 10) (.seq (.reg [o1 14 (.faddr 3 (.t 1)),
          o1 15 (.load none (.t 14)),
          o1 16 (.call (.f 62) [(.t 15)]),
          o1 2 (.mv (.t 16))])
         (.ret)) (.skip))))))
   (.seq (.reg [o1 17 (.faddr 3 (.t 1)),
     o1 18 (.load none (.t 17)),
     o1 19 (.bin .eql (.t 18) (.c (.string ⟨#[]⟩))),
     o1 2 (.mv (.t 19))])
    (.ret)))
theorem s38_ok : lookF Try.prog 38 = some (s38, 20, [.tmp 2]) := by kernel_rfl
theorem isArg_ok (c : Change) (hs : SmC c) : Fn P 38 [chA c] (boolA (argB c)) := by
  have c1 := isName_ok c.2.2.2 hs.2.2
  have c2 := isPlain_ok c.2.2.2 hs.2.2
  (refine fn_look s38_ok (by simp) (by intro k; simp only [go_sem, Nat.reduceEqDiff, ↓reduceIte, reduceCtorEq, Nat.reduceAdd, Nat.reduceMul, Int.reduceToNat, List.reduceReplicate, Nat.reduceLeDiff, Nat.reduceLT, Int.reduceLT, Int.reduceLE, Int.reduceEq]) fun S hS => cwp_sound _ _ _ _ ?_; simp (maxSteps := 900000) (disch := omega) only [s38, go_sem, Nat.reduceEqDiff, ↓reduceIte, reduceCtorEq, Nat.reduceAdd, Nat.reduceMul, Int.reduceToNat, List.reduceReplicate, Nat.reduceLeDiff, Nat.reduceLT, Int.reduceLT, Int.reduceLE, Int.reduceEq])
  repeat' (first | with_reducible refine inw ?_ | simp (maxSteps := 900000) (disch := omega) only [go_sem, Nat.reduceEqDiff, ↓reduceIte, reduceCtorEq, Nat.reduceAdd, Nat.reduceMul, Int.reduceToNat, List.reduceReplicate, Nat.reduceLeDiff, Nat.reduceLT, Int.reduceLT, Int.reduceLE, Int.reduceEq] | (with_reducible apply call (c1)); (focus simp (maxSteps := 900000) (disch := omega) only [go_sem, Nat.reduceEqDiff, ↓reduceIte, reduceCtorEq, Nat.reduceAdd, Nat.reduceMul, Int.reduceToNat, List.reduceReplicate, Nat.reduceLeDiff, Nat.reduceLT, Int.reduceLT, Int.reduceLE, Int.reduceEq] <;> rfl) | (with_reducible apply call (c2)); (focus simp (maxSteps := 900000) (disch := omega) only [go_sem, Nat.reduceEqDiff, ↓reduceIte, reduceCtorEq, Nat.reduceAdd, Nat.reduceMul, Int.reduceToNat, List.reduceReplicate, Nat.reduceLeDiff, Nat.reduceLT, Int.reduceLT, Int.reduceLE, Int.reduceEq] <;> rfl) | with_reducible refine giv_intro fun _h => ?_ | with_reducible refine alt_intro ?_ fun _h => ?_ | with_reducible refine pickD_nil ?_ | (with_reducible refine brc (fun _h => ?_) fun _h => ?_) <;> first | (exfalso; omega) | simp only [decide_eq_false _h] | simp only [(_h : (_ : Bool) = _)] | simp only [decide_eq_true _h] | skip)
  all_goals (rw [argB]; simp only [if_pos, if_neg, *]; try simp)
/-- ablaut/learn.at: 2 parameters, 0 captured -/
def s72 : SC := .seq (.reg [o1 4 (.mv (.c (.string ⟨#[]⟩)))])
  (.seq (.seq (.reg [o1 5 (.mv (.t 1)),
     o1 6 (.bin .lss (.t 5) (cI 0)),
     o1 7 (.mv (.t 6)),
     oF 8 (.mv (.t 1)) 7,
     oF 9 (.mv (.t 0)) 7,
     oF 10 (.lenL (.t 9)) 7,
     oF 11 (.bin .geq (.t 8) (.t 10)) 7,
     o1 12 (.pick (.t 7) (cB true) (.t 11))])
    (.cond (.t 12) (.seq (.reg [o1 4 (.mv (.c (.string ⟨#[]⟩)))])
      (.ret)) (.skip)))
   (.seq (.reg [o1 13 (.mv (.t 0)),
     o1 14 (.mv (.t 1)),
     o1 15 (.iaddr 1 (.t 13) (.t 14)),
     o1 16 (.load none (.t 15)),
     o1 4 (.mv (.t 16))])
    (.ret)))
theorem s72_ok : lookF Try.prog 72 = some (s72, 17, [.tmp 4]) := by kernel_rfl
def atS (l : List Str) (i : Int) : Str := if 0 ≤ i ∧ i < l.length then nth l i.toNat else ⟨#[]⟩
theorem at_ok (l : List Str) (i : Int) : Fn P 72 [sl l, intA i] (strA (atS l i)) := by
  (refine fn_look s72_ok (by simp) (by intro k; simp only [go_sem, Nat.reduceEqDiff, ↓reduceIte, reduceCtorEq, Nat.reduceAdd, Nat.reduceMul, Int.reduceToNat, List.reduceReplicate, Nat.reduceLeDiff, Nat.reduceLT, Int.reduceLT, Int.reduceLE, Int.reduceEq]) fun S hS => cwp_sound _ _ _ _ ?_; simp (maxSteps := 900000) (disch := omega) only [s72, go_sem, Nat.reduceEqDiff, ↓reduceIte, reduceCtorEq, Nat.reduceAdd, Nat.reduceMul, Int.reduceToNat, List.reduceReplicate, Nat.reduceLeDiff, Nat.reduceLT, Int.reduceLT, Int.reduceLE, Int.reduceEq])
  by_cases h : 0 ≤ i ∧ i < l.length
  · obtain ⟨k, rfl⟩ : ∃ k : Nat, i = k := ⟨i.toNat, by omega⟩
    have hk : k < l.length := by omega
    repeat' (first | with_reducible refine inw ?_ | simp (maxSteps := 900000) (disch := omega) only [go_sem, Nat.reduceEqDiff, ↓reduceIte, reduceCtorEq, Nat.reduceAdd, Nat.reduceMul, Int.reduceToNat, List.reduceReplicate, Nat.reduceLeDiff, Nat.reduceLT, Int.reduceLT, Int.reduceLE, Int.reduceEq] | with_reducible refine giv_intro fun _h => ?_ | with_reducible refine alt_intro ?_ fun _h => ?_ | with_reducible refine pickD_nil ?_ | (with_reducible refine brc (fun _h => ?_) fun _h => ?_) <;> first | (exfalso; omega) | simp only [decide_eq_false _h] | simp only [(_h : (_ : Bool) = _)] | simp only [decide_eq_true _h] | skip)
    rw [atS, if_pos h]; rfl
  · rw [atS, if_neg h]
    repeat' (first | with_reducible refine inw ?_ | simp (maxSteps := 900000) (disch := omega) only [go_sem, Nat.reduceEqDiff, ↓reduceIte, reduceCtorEq, Nat.reduceAdd, Nat.reduceMul, Int.reduceToNat, List.reduceReplicate, Nat.reduceLeDiff, Nat.reduceLT, Int.reduceLT, Int.reduceLE, Int.reduceEq] | with_reducible refine giv_intro fun _h => ?_ | with_reducible refine alt_intro ?_ fun _h => ?_ | with_reducible refine pickD_nil ?_ | (with_reducible refine brc (fun _h => ?_) fun _h => ?_) <;> first | (exfalso; omega) | simp only [decide_eq_false _h] | simp only [(_h : (_ : Bool) = _)] | simp only [decide_eq_true _h] | skip)
    all_goals first | rfl | (exfalso; omega)
def cmpS (a b : Str) : Int := if ltB a b = true then -1 else if ltB b a = true then 1 else 0
def cmpI (a b : Int) : Int := if a < b then -1 else if b < a then 1 else 0
/-- cmp.isNaN[string]: 1 parameters, 0 captured -/
def s81 : SC := .seq (.reg [o1 2 (.mv (cB false))])
  (.seq (.reg [o1 3 (.mv (.t 0)),
    o1 4 (.mv (.t 0)),
    o1 5 (.bin .neq (.t 3) (.t 4)),
    o1 2 (.mv (.t 5))])
   (.ret))
theorem s81_ok : lookF Try.prog 81 = some (s81, 6, [.tmp 2]) := by kernel_rfl
theorem nanS_ok (s : Str) : Fn P 81 [strA s] (boolA false) := by
  (refine fn_look s81_ok (by simp) (by intro k; simp only [go_sem, Nat.reduceEqDiff, ↓reduceIte, reduceCtorEq, Nat.reduceAdd, Nat.reduceMul, Int.reduceToNat, List.reduceReplicate, Nat.reduceLeDiff, Nat.reduceLT, Int.reduceLT, Int.reduceLE, Int.reduceEq]) fun S hS => cwp_sound _ _ _ _ ?_; simp (maxSteps := 900000) (disch := omega) only [s81, go_sem, Nat.reduceEqDiff, ↓reduceIte, reduceCtorEq, Nat.reduceAdd, Nat.reduceMul, Int.reduceToNat, List.reduceReplicate, Nat.reduceLeDiff, Nat.reduceLT, Int.reduceLT, Int.reduceLE, Int.reduceEq])
  repeat' (first | with_reducible refine inw ?_ | simp (maxSteps := 900000) (disch := omega) only [go_sem, Nat.reduceEqDiff, ↓reduceIte, reduceCtorEq, Nat.reduceAdd, Nat.reduceMul, Int.reduceToNat, List.reduceReplicate, Nat.reduceLeDiff, Nat.reduceLT, Int.reduceLT, Int.reduceLE, Int.reduceEq] | with_reducible refine giv_intro fun _h => ?_ | with_reducible refine alt_intro ?_ fun _h => ?_ | with_reducible refine pickD_nil ?_ | (with_reducible refine brc (fun _h => ?_) fun _h => ?_) <;> first | (exfalso; omega) | simp only [decide_eq_false _h] | simp only [(_h : (_ : Bool) = _)] | simp only [decide_eq_true _h] | skip)
  all_goals first | rfl | simp
/-- cmp.isNaN[int]: 1 parameters, 0 captured -/
def s82 : SC := .seq (.reg [o1 2 (.mv (cB false))])
  (.seq (.reg [o1 3 (.mv (.t 0)),
    o1 4 (.mv (.t 0)),
    o1 5 (.bin .neq (.t 3) (.t 4)),
    o1 2 (.mv (.t 5))])
   (.ret))
theorem s82_ok : lookF Try.prog 82 = some (s82, 6, [.tmp 2]) := by kernel_rfl
theorem nanI_ok (s : Int) : Fn P 82 [intA s] (boolA false) := by
  (refine fn_look s82_ok (by simp) (by intro k; simp only [go_sem, Nat.reduceEqDiff, ↓reduceIte, reduceCtorEq, Nat.reduceAdd, Nat.reduceMul, Int.reduceToNat, List.reduceReplicate, Nat.reduceLeDiff, Nat.reduceLT, Int.reduceLT, Int.reduceLE, Int.reduceEq]) fun S hS => cwp_sound _ _ _ _ ?_; simp (maxSteps := 900000) (disch := omega) only [s82, go_sem, Nat.reduceEqDiff, ↓reduceIte, reduceCtorEq, Nat.reduceAdd, Nat.reduceMul, Int.reduceToNat, List.reduceReplicate, Nat.reduceLeDiff, Nat.reduceLT, Int.reduceLT, Int.reduceLE, Int.reduceEq])
  repeat' (first | with_reducible refine inw ?_ | simp (maxSteps := 900000) (disch := omega) only [go_sem, Nat.reduceEqDiff, ↓reduceIte, reduceCtorEq, Nat.reduceAdd, Nat.reduceMul, Int.reduceToNat, List.reduceReplicate, Nat.reduceLeDiff, Nat.reduceLT, Int.reduceLT, Int.reduceLE, Int.reduceEq] | with_reducible refine giv_intro fun _h => ?_ | with_reducible refine alt_intro ?_ fun _h => ?_ | with_reducible refine pickD_nil ?_ | (with_reducible refine brc (fun _h => ?_) fun _h => ?_) <;> first | (exfalso; omega) | simp only [decide_eq_false _h] | simp only [(_h : (_ : Bool) = _)] | simp only [decide_eq_true _h] | skip)
  all_goals first | rfl | simp
/-- cmp.Compare[string]: 2 parameters, 0 captured -/
def s78 : SC := .seq (.reg [o1 4 (.mv (cI 0))])
  (.seq (.reg [o1 7 (.mv (.t 0)),
    o1 8 (.call (.f 81) [(.t 7)]),
    o1 5 (.mv (.t 8))])
   (.seq (.reg [o1 9 (.mv (.t 1)),
     o1 10 (.call (.f 81) [(.t 9)]),
     o1 6 (.mv (.t 10))])
    (.seq (.seq (.reg [o1 11 (.mv (.t 5))])
      (.cond (.t 11) (.seq (.seq (.reg [o1 12 (.mv (.t 6))])
         (.cond (.t 12) (.seq (.reg [o1 4 (.mv (cI 0))])
           (.ret)) (.skip)))
        (.seq (.reg [o1 4 (.mv (cI (-1)))])
         (.ret))) (.skip)))
     (.seq (.seq (.reg [o1 13 (.mv (.t 6))])
       (.cond (.t 13) (.seq (.reg [o1 4 (.mv (cI 1))])
         (.ret)) (.skip)))
      (.seq (.seq (.reg [o1 14 (.mv (.t 0)),
         o1 15 (.mv (.t 1)),
         o1 16 (.bin .lss (.t 14) (.t 15))])
        (.cond (.t 16) (.seq (.reg [o1 4 (.mv (cI (-1)))])
          (.ret)) (.skip)))
       (.seq (.seq (.reg [o1 17 (.mv (.t 0)),
          o1 18 (.mv (.t 1)),
          o1 19 (.bin .gtr (.t 17) (.t 18))])
         (.cond (.t 19) (.seq (.reg [o1 4 (.mv (cI 1))])
           (.ret)) (.skip)))
        (.seq (.reg [o1 4 (.mv (cI 0))])
         (.ret))))))))
theorem s78_ok : lookF Try.prog 78 = some (s78, 20, [.tmp 4]) := by kernel_rfl
theorem compareS_ok (a b : Str) : Fn P 78 [strA a, strA b] (intA (cmpS a b)) := by
  have c1 := nanS_ok a
  have c2 := nanS_ok b
  (refine fn_look s78_ok (by simp) (by intro k; simp only [go_sem, Nat.reduceEqDiff, ↓reduceIte, reduceCtorEq, Nat.reduceAdd, Nat.reduceMul, Int.reduceToNat, List.reduceReplicate, Nat.reduceLeDiff, Nat.reduceLT, Int.reduceLT, Int.reduceLE, Int.reduceEq]) fun S hS => cwp_sound _ _ _ _ ?_; simp (maxSteps := 900000) (disch := omega) only [s78, go_sem, Nat.reduceEqDiff, ↓reduceIte, reduceCtorEq, Nat.reduceAdd, Nat.reduceMul, Int.reduceToNat, List.reduceReplicate, Nat.reduceLeDiff, Nat.reduceLT, Int.reduceLT, Int.reduceLE, Int.reduceEq])
  repeat' (first | with_reducible refine inw ?_ | simp (maxSteps := 900000) (disch := omega) only [go_sem, Nat.reduceEqDiff, ↓reduceIte, reduceCtorEq, Nat.reduceAdd, Nat.reduceMul, Int.reduceToNat, List.reduceReplicate, Nat.reduceLeDiff, Nat.reduceLT, Int.reduceLT, Int.reduceLE, Int.reduceEq] | (with_reducible apply call (c1)); (focus simp (maxSteps := 900000) (disch := omega) only [go_sem, Nat.reduceEqDiff, ↓reduceIte, reduceCtorEq, Nat.reduceAdd, Nat.reduceMul, Int.reduceToNat, List.reduceReplicate, Nat.reduceLeDiff, Nat.reduceLT, Int.reduceLT, Int.reduceLE, Int.reduceEq] <;> rfl) | (with_reducible apply call (c2)); (focus simp (maxSteps := 900000) (disch := omega) only [go_sem, Nat.reduceEqDiff, ↓reduceIte, reduceCtorEq, Nat.reduceAdd, Nat.reduceMul, Int.reduceToNat, List.reduceReplicate, Nat.reduceLeDiff, Nat.reduceLT, Int.reduceLT, Int.reduceLE, Int.reduceEq] <;> rfl) | with_reducible refine giv_intro fun _h => ?_ | with_reducible refine alt_intro ?_ fun _h => ?_ | with_reducible refine pickD_nil ?_ | (with_reducible refine brc (fun _h => ?_) fun _h => ?_) <;> first | (exfalso; omega) | simp only [decide_eq_false _h] | simp only [(_h : (_ : Bool) = _)] | simp only [decide_eq_true _h] | skip)
  all_goals (rw [cmpS]; simp [*])
/-- cmp.Compare[int]: 2 parameters, 0 captured -/
def s79 : SC := .seq (.reg [o1 4 (.mv (cI 0))])
  (.seq (.reg [o1 7 (.mv (.t 0)),
    o1 8 (.call (.f 82) [(.t 7)]),
    o1 5 (.mv (.t 8))])
   (.seq (.reg [o1 9 (.mv (.t 1)),
     o1 10 (.call (.f 82) [(.t 9)]),
     o1 6 (.mv (.t 10))])
    (.seq (.seq (.reg [o1 11 (.mv (.t 5))])
      (.cond (.t 11) (.seq (.seq (.reg [o1 12 (.mv (.t 6))])
         (.cond (.t 12) (.seq (.reg [o1 4 (.mv (cI 0))])
           (.ret)) (.skip)))
        (.seq (.reg [o1 4 (.mv (cI (-1)))])
         (.ret))) (.skip)))
     (.seq (.seq (.reg [o1 13 (.mv (.t 6))])
       (.cond (.t 13) (.seq (.reg [o1 4 (.mv (cI 1))])
         (.ret)) (.skip)))
      (.seq (.seq (.reg [o1 14 (.mv (.t 0)),
         o1 15 (.mv (.t 1)),
         o1 16 (.bin .lss (.t 14) (.t 15))])
        (.cond (.t 16) (.seq (.reg [o1 4 (.mv (cI (-1)))])
          (.ret)) (.skip)))
       (.seq (.seq (.reg [o1 17 (.mv (.t 0)),
          o1 18 (.mv (.t 1)),
          o1 19 (.bin .gtr (.t 17) (.t 18))])
         (.cond (.t 19) (.seq (.reg [o1 4 (.mv (cI 1))])
           (.ret)) (.skip)))
        (.seq (.reg [o1 4 (.mv (cI 0))])
         (.ret))))))))
theorem s79_ok : lookF Try.prog 79 = some (s79, 20, [.tmp 4]) := by kernel_rfl
theorem compareI_ok (a b : Int) : Fn P 79 [intA a, intA b] (intA (cmpI a b)) := by
  have c1 := nanI_ok a
  have c2 := nanI_ok b
  (refine fn_look s79_ok (by simp) (by intro k; simp only [go_sem, Nat.reduceEqDiff, ↓reduceIte, reduceCtorEq, Nat.reduceAdd, Nat.reduceMul, Int.reduceToNat, List.reduceReplicate, Nat.reduceLeDiff, Nat.reduceLT, Int.reduceLT, Int.reduceLE, Int.reduceEq]) fun S hS => cwp_sound _ _ _ _ ?_; simp (maxSteps := 900000) (disch := omega) only [s79, go_sem, Nat.reduceEqDiff, ↓reduceIte, reduceCtorEq, Nat.reduceAdd, Nat.reduceMul, Int.reduceToNat, List.reduceReplicate, Nat.reduceLeDiff, Nat.reduceLT, Int.reduceLT, Int.reduceLE, Int.reduceEq])
  repeat' (first | with_reducible refine inw ?_ | simp (maxSteps := 900000) (disch := omega) only [go_sem, Nat.reduceEqDiff, ↓reduceIte, reduceCtorEq, Nat.reduceAdd, Nat.reduceMul, Int.reduceToNat, List.reduceReplicate, Nat.reduceLeDiff, Nat.reduceLT, Int.reduceLT, Int.reduceLE, Int.reduceEq] | (with_reducible apply call (c1)); (focus simp (maxSteps := 900000) (disch := omega) only [go_sem, Nat.reduceEqDiff, ↓reduceIte, reduceCtorEq, Nat.reduceAdd, Nat.reduceMul, Int.reduceToNat, List.reduceReplicate, Nat.reduceLeDiff, Nat.reduceLT, Int.reduceLT, Int.reduceLE, Int.reduceEq] <;> rfl) | (with_reducible apply call (c2)); (focus simp (maxSteps := 900000) (disch := omega) only [go_sem, Nat.reduceEqDiff, ↓reduceIte, reduceCtorEq, Nat.reduceAdd, Nat.reduceMul, Int.reduceToNat, List.reduceReplicate, Nat.reduceLeDiff, Nat.reduceLT, Int.reduceLT, Int.reduceLE, Int.reduceEq] <;> rfl) | with_reducible refine giv_intro fun _h => ?_ | with_reducible refine alt_intro ?_ fun _h => ?_ | with_reducible refine pickD_nil ?_ | (with_reducible refine brc (fun _h => ?_) fun _h => ?_) <;> first | (exfalso; omega) | simp only [decide_eq_false _h] | simp only [(_h : (_ : Bool) = _)] | simp only [decide_eq_true _h] | skip)
  all_goals (rw [cmpI]; simp [*])
def orI : List Int → Int
  | [] => 0
  | x :: l => if x ≠ 0 then x else orI l
theorem orI_drop {l : List Int} {i : Nat} (h : i < l.length) : orI (l.drop i) = if nth l i ≠ 0 then nth l i else orI (l.drop (i + 1)) := by
  rw [nth_drop h]; rfl
/-- cmp.Or[int]: 1 parameters, 0 captured -/
def s77 : SC := .seq (.reg [o1 2 (.mv (cI 0))])
  (.seq (.reg [o1 3 (.mv (cI 0))])
   (.seq (.seq (.reg [o1 6 (.mv (.t 0)),
      o1 7 (.lenL (.t 6)),
      o1 8 (.mv (cI 0))])
     (.block 0 (.loop (.seq (.reg [o1 9 (.bin .lss (.t 8) (.t 7))])
        (.seq (.cond (.t 9) (.skip) (.exit 0))
         (.seq (.block 1 (.seq (.reg [o1 10 (.iaddr 1 (.t 6) (.t 8)),
             o1 11 (.load none (.t 10)),
             o1 5 (.mv (.t 11))])
            (.seq (.reg [o1 12 (.mv (.t 5)),
              o1 13 (.mv (.t 3)),
              o1 14 (.bin .neq (.t 12) (.t 13))])
             (.cond (.t 14) (.seq (.reg [o1 15 (.mv (.t 5)),
                o1 2 (.mv (.t 15))])
               (.ret)) (.skip)))))
          (.reg [o1 16 (.bin .add (.t 8) (cI 1)),
           o1 8 (.mv (.t 16))])))))))
    (.seq (.reg [o1 17 (.mv (.t 3)),
      o1 2 (.mv (.t 17))])
     (.ret))))
theorem s77_ok : lookF Try.prog 77 = some (s77, 18, [.tmp 2]) := by kernel_rfl
theorem or_ok (l : List Int) : Fn P 77 [sl l] (intA (orI l)) := by
  (refine fn_look s77_ok (by simp) (by intro k; simp only [go_sem, Nat.reduceEqDiff, ↓reduceIte, reduceCtorEq, Nat.reduceAdd, Nat.reduceMul, Int.reduceToNat, List.reduceReplicate, Nat.reduceLeDiff, Nat.reduceLT, Int.reduceLT, Int.reduceLE, Int.reduceEq]) fun S hS => cwp_sound _ _ _ _ ?_; simp (maxSteps := 900000) (disch := omega) only [s77, go_sem, Nat.reduceEqDiff, ↓reduceIte, reduceCtorEq, Nat.reduceAdd, Nat.reduceMul, Int.reduceToNat, List.reduceReplicate, Nat.reduceLeDiff, Nat.reduceLT, Int.reduceLT, Int.reduceLE, Int.reduceEq])
  repeat' (first | with_reducible refine inw ?_ | simp (maxSteps := 900000) (disch := omega) only [go_sem, Nat.reduceEqDiff, ↓reduceIte, reduceCtorEq, Nat.reduceAdd, Nat.reduceMul, Int.reduceToNat, List.reduceReplicate, Nat.reduceLeDiff, Nat.reduceLT, Int.reduceLT, Int.reduceLE, Int.reduceEq] | with_reducible refine giv_intro fun _h => ?_ | with_reducible refine alt_intro ?_ fun _h => ?_ | with_reducible refine pickD_nil ?_ | (with_reducible refine brc (fun _h => ?_) fun _h => ?_) <;> first | (exfalso; omega) | simp only [decide_eq_false _h] | simp only [(_h : (_ : Bool) = _)] | simp only [decide_eq_true _h] | skip)
  (refine loopC hS [3, 6, 7] (by simp only [go_sem, Nat.reduceEqDiff, ↓reduceIte, reduceCtorEq, Nat.reduceAdd, Nat.reduceMul, Int.reduceToNat, List.reduceReplicate, Nat.reduceLeDiff, Nat.reduceLT, Int.reduceLT, Int.reduceLE, Int.reduceEq]; try rfl) (fun (i : Nat) => [(8, intA i)]) (fun (i : Nat) => []) (fun (i : Nat) => i ≤ l.length ∧ orI l = orI (l.drop i)) (fun (i : Nat) => l.length - i) (0) ?h05 ?hn5 ?rd5; case hn5 => (intro s; first | rfl | (rcases s with ⟨_, _⟩; rfl) | (rcases s with ⟨_, _, _⟩; rfl) | (rcases s with ⟨_, _, _, _⟩; rfl) | (rcases s with ⟨_, _, _, _, _⟩; rfl)))
  · simp (maxSteps := 900000) (disch := omega) only [go_sem, Nat.reduceEqDiff, ↓reduceIte, reduceCtorEq, Nat.reduceAdd, Nat.reduceMul, Int.reduceToNat, List.reduceReplicate, Nat.reduceLeDiff, Nat.reduceLT, Int.reduceLT, Int.reduceLE, Int.reduceEq]; simp
  rintro i ⟨hi, h2⟩
  replace hi : i ≤ l.length := hi
  replace h2 : orI l = orI (l.drop i) := h2
  by_cases hil : i < l.length
  · rw [orI_drop hil] at h2
    repeat' (first | with_reducible refine inw ?_ | simp (maxSteps := 900000) (disch := omega) only [go_sem, Nat.reduceEqDiff, ↓reduceIte, reduceCtorEq, Nat.reduceAdd, Nat.reduceMul, Int.reduceToNat, List.reduceReplicate, Nat.reduceLeDiff, Nat.reduceLT, Int.reduceLT, Int.reduceLE, Int.reduceEq] | with_reducible refine giv_intro fun _h => ?_ | with_reducible refine alt_intro ?_ fun _h => ?_ | with_reducible refine pickD_nil ?_ | (with_reducible refine brc (fun _h => ?_) fun _h => ?_) <;> first | (exfalso; omega) | simp only [decide_eq_false _h] | simp only [(_h : (_ : Bool) = _)] | simp only [decide_eq_true _h] | skip)
    · rw [h2, if_pos _h]
    · exact ⟨i + 1, ⟨by omega, by omega, by rw [h2]; simp [_h]⟩, by omega⟩
  · rw [drop_end (by omega)] at h2
    repeat' (first | with_reducible refine inw ?_ | simp (maxSteps := 900000) (disch := omega) only [go_sem, Nat.reduceEqDiff, ↓reduceIte, reduceCtorEq, Nat.reduceAdd, Nat.reduceMul, Int.reduceToNat, List.reduceReplicate, Nat.reduceLeDiff, Nat.reduceLT, Int.reduceLT, Int.reduceLE, Int.reduceEq] | with_reducible refine giv_intro fun _h => ?_ | with_reducible refine alt_intro ?_ fun _h => ?_ | with_reducible refine pickD_nil ?_ | (with_reducible refine brc (fun _h => ?_) fun _h => ?_) <;> first | (exfalso; omega) | simp only [decide_eq_false _h] | simp only [(_h : (_ : Bool) = _)] | simp only [decide_eq_true _h] | skip)
    exact h2.symm
def ordC (a b : Change) : Int := orI [cmpS a.1 b.1, cmpS a.2.1 b.2.1, cmpI a.2.2.1 b.2.2.1, cmpS a.2.2.2 b.2.2.2]
/-- ablaut/learn.order: 2 parameters, 0 captured -/
def s67 : SC := .seq (.reg [o1 2 (.box 32 4 (.t 0)),
   o1 3 (.box 32 4 (.t 1)),
   o1 4 (.mv (cI 0))])
  (.seq (.regD [o1 5 (.faddr 0 (.t 2)),
    o1 6 (.load none (.t 5)),
    o1 7 (.faddr 0 (.t 3)),
    o1 8 (.load none (.t 7)),
    o1 9 (.call (.f 78) [(.t 6), (.t 8)]),
    o1 10 (.faddr 1 (.t 2)),
    o1 11 (.load none (.t 10)),
    o1 12 (.faddr 1 (.t 3)),
    o1 13 (.load none (.t 12)),
    o1 14 (.call (.f 78) [(.t 11), (.t 13)]),
    o1 15 (.faddr 2 (.t 2)),
    o1 16 (.load none (.t 15)),
    o1 17 (.faddr 2 (.t 3)),
    o1 18 (.load none (.t 17)),
    o1 19 (.call (.f 79) [(.t 16), (.t 18)]),
    o1 20 (.faddr 3 (.t 2)),
    o1 21 (.load none (.t 20)),
    o1 22 (.faddr 3 (.t 3)),
    o1 23 (.load none (.t 22)),
    o1 24 (.call (.f 78) [(.t 21), (.t 23)]),
    o1 25 (.buildSl 3 1 4 [(.int .i64 0)] [(0, 1, (.t 9)), (1, 1, (.t 14)), (2, 1, (.t 19)), (3, 1, (.t 24))]),
    o1 26 (.call (.f 77) [(.t 25)]),
    o1 4 (.mv (.t 26))])
   (.ret))
theorem s67_ok : lookF Try.prog 67 = some (s67, 27, [.tmp 4]) := by kernel_rfl
theorem order_ok (a b : Change) : Fn P 67 [chA a, chA b] (intA (ordC a b)) := by
  have c1 := compareS_ok a.1 b.1
  have c2 := compareS_ok a.2.1 b.2.1
  have c3 := compareI_ok a.2.2.1 b.2.2.1
  have c4 := compareS_ok a.2.2.2 b.2.2.2
  have c5 := or_ok [cmpS a.1 b.1, cmpS a.2.1 b.2.1, cmpI a.2.2.1 b.2.2.1, cmpS a.2.2.2 b.2.2.2]
  (refine fn_look s67_ok (by simp) (by intro k; simp only [go_sem, Nat.reduceEqDiff, ↓reduceIte, reduceCtorEq, Nat.reduceAdd, Nat.reduceMul, Int.reduceToNat, List.reduceReplicate, Nat.reduceLeDiff, Nat.reduceLT, Int.reduceLT, Int.reduceLE, Int.reduceEq]) fun S hS => cwp_sound _ _ _ _ ?_; simp (maxSteps := 900000) (disch := omega) only [s67, go_sem, Nat.reduceEqDiff, ↓reduceIte, reduceCtorEq, Nat.reduceAdd, Nat.reduceMul, Int.reduceToNat, List.reduceReplicate, Nat.reduceLeDiff, Nat.reduceLT, Int.reduceLT, Int.reduceLE, Int.reduceEq])
  repeat' (first | with_reducible refine inw ?_ | simp (maxSteps := 900000) (disch := omega) only [go_sem, Nat.reduceEqDiff, ↓reduceIte, reduceCtorEq, Nat.reduceAdd, Nat.reduceMul, Int.reduceToNat, List.reduceReplicate, Nat.reduceLeDiff, Nat.reduceLT, Int.reduceLT, Int.reduceLE, Int.reduceEq] | (with_reducible apply call_D (c1)); (focus simp (maxSteps := 900000) (disch := omega) only [go_sem, Nat.reduceEqDiff, ↓reduceIte, reduceCtorEq, Nat.reduceAdd, Nat.reduceMul, Int.reduceToNat, List.reduceReplicate, Nat.reduceLeDiff, Nat.reduceLT, Int.reduceLT, Int.reduceLE, Int.reduceEq] <;> rfl) | (with_reducible apply call_D (c2)); (focus simp (maxSteps := 900000) (disch := omega) only [go_sem, Nat.reduceEqDiff, ↓reduceIte, reduceCtorEq, Nat.reduceAdd, Nat.reduceMul, Int.reduceToNat, List.reduceReplicate, Nat.reduceLeDiff, Nat.reduceLT, Int.reduceLT, Int.reduceLE, Int.reduceEq] <;> rfl) | (with_reducible apply call_D (c3)); (focus simp (maxSteps := 900000) (disch := omega) only [go_sem, Nat.reduceEqDiff, ↓reduceIte, reduceCtorEq, Nat.reduceAdd, Nat.reduceMul, Int.reduceToNat, List.reduceReplicate, Nat.reduceLeDiff, Nat.reduceLT, Int.reduceLT, Int.reduceLE, Int.reduceEq] <;> rfl) | (with_reducible apply call_D (c4)); (focus simp (maxSteps := 900000) (disch := omega) only [go_sem, Nat.reduceEqDiff, ↓reduceIte, reduceCtorEq, Nat.reduceAdd, Nat.reduceMul, Int.reduceToNat, List.reduceReplicate, Nat.reduceLeDiff, Nat.reduceLT, Int.reduceLT, Int.reduceLE, Int.reduceEq] <;> rfl) | (with_reducible apply call_D (c5)); (focus simp (maxSteps := 900000) (disch := omega) only [go_sem, Nat.reduceEqDiff, ↓reduceIte, reduceCtorEq, Nat.reduceAdd, Nat.reduceMul, Int.reduceToNat, List.reduceReplicate, Nat.reduceLeDiff, Nat.reduceLT, Int.reduceLT, Int.reduceLE, Int.reduceEq] <;> rfl) | with_reducible refine giv_intro fun _h => ?_ | with_reducible refine alt_intro ?_ fun _h => ?_ | with_reducible refine pickD_nil ?_ | (with_reducible refine brc (fun _h => ?_) fun _h => ?_) <;> first | (exfalso; omega) | simp only [decide_eq_false _h] | simp only [(_h : (_ : Bool) = _)] | simp only [decide_eq_true _h] | skip)
  rfl
def aheadB (a b : Change) : Bool := if a.1 ≠ b.1 then ltB a.1 b.1 else if a.2.1 ≠ b.2.1 then ltB a.2.1 b.2.1 else if a.2.2.1 ≠ b.2.2.1 then decide (a.2.2.1 < b.2.2.1) else ltB a.2.2.2 b.2.2.2
end Go.Proofs.Ytapgimibdamjoaa.Ev

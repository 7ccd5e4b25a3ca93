/- Names, sets of names; searches; what a node has. -/
import Derived.Test.YtkedbkdbnmmkhaaZEvU
import Derived.Test.YtkedbkdbnmmkhaaZEvX
import Derived.Test.YtkedbkdbnmmkhaaProg
import Derived.KernelRfl
set_option linter.unusedVariables false
set_option linter.unusedSimpArgs false
namespace Go.Proofs.Ytkedbkdbnmmkhaa.Ev
open Go Go.Proofs
noncomputable abbrev P : Program := Try.prog
abbrev Str := ByteArray
abbrev Hung := List Str × Int × Str
abbrev Hook := List Str × List Str × List Str × Int × Int × Str

theorem findIdx_anyG {α : Type} {l : List α} {p : α → Bool} : decide (0 ≤ (match l.findIdx? p with | some i => (i : Int) | none => -1)) = l.any p := by
  cases h : l.findIdx? p with
  | none => have := List.findIdx?_eq_none_iff.1 h; simp; simpa using this
  | some i =>
    obtain ⟨h1, h2, _⟩ := List.findIdx?_eq_some_iff_getElem.1 h
    have : l.any p = true := List.any_eq_true.2 ⟨l[i], List.getElem_mem h1, h2⟩
    rw [this]; simp
theorem size_zero {s : Str} : s = ⟨#[]⟩ ↔ s.size = 0 := by
  constructor
  · rintro rfl; rfl
  · intro h
    cases s with
    | mk d =>
      have : d.size = 0 := h
      rw [Array.size_eq_zero_iff] at this
      rw [this]
def letB (b : Int) : Bool := decide (97 ≤ b ∧ b ≤ 122 ∨ 65 ≤ b ∧ b ≤ 90)
def nameCh (s : Str) (i : Nat) : Bool := letB (byteAt s i) || decide (48 ≤ byteAt s i ∧ byteAt s i ≤ 57 ∧ i ≠ 0)
def allCh (s : Str) : Bool := decide (∀ i, i < s.size → nameCh s i = true)
def nameB (s : Str) : Bool := allCh s && (decide (1 ≤ s.size) && decide (s.size ≤ 12))
theorem allCh_no {s : Str} {i : Nat} (h1 : i < s.size) (h2 : nameCh s i = false) : allCh s = false := decide_eq_false fun h => by have := h i h1; rw [h2] at this; cases this
theorem allCh_yes {s : Str} {i : Nat} (h1 : ¬ i < s.size) (h2 : ∀ j, j < i → nameCh s j = true) : allCh s = true := decide_eq_true fun j hj => h2 j (by omega)
theorem allCh_step {s : Str} {i : Nat} (h : ∀ j, j < i → nameCh s j = true) (h2 : nameCh s i = true) : ∀ j, j < i + 1 → nameCh s j = true := fun j hj => by
  by_cases e : j = i
  · subst e; exact h2
  · exact h j (by omega)
theorem or32 {b : Int} (h : 0 ≤ b ∧ b ≤ 255) : letB b = decide (97 ≤ bits .or .u8 b 32 ∧ bits .or .u8 b 32 ≤ 122) := by
  have : ∀ n : Fin 256, letB (n.val : Int) = decide (97 ≤ bits .or .u8 (n.val : Int) 32 ∧ bits .or .u8 (n.val : Int) 32 ≤ 122) := by decide +kernel
  have h2 := this ⟨b.toNat, by omega⟩
  have e : (b.toNat : Int) = b := by omega
  simp only [e] at h2
  exact h2
theorem allN_step {p : Nat → Prop} {i : Nat} (h : ∀ j, j < i → p j) (h2 : p i) : ∀ j, j < i + 1 → p j := fun j hj => by
  by_cases e : j = i
  · subst e; exact h2
  · exact h j (by omega)
/-- ablaut/depend.isName: 1 parameters, 0 captured -/
def s68 : SC := .seq (.reg [o1 2 (.mv (cB false))])
  (.seq (.seq (.reg [o1 5 (.mv (.t 0)),
     o1 6 (.lenS (.t 5)),
     o1 7 (.mv (cI 0))])
    (.block 0 (.loop (.seq (.reg [o1 8 (.bin .lss (.t 7) (.t 6))])
       (.seq (.cond (.t 8) (.skip) (.exit 0))
        (.seq (.block 1 (.seq (.reg [o1 9 (.mv (.t 7)),
            o1 3 (.mv (.t 9))])
           (.seq (.reg [o1 10 (.mv (.t 0)),
             o1 11 (.mv (.t 3)),
             o1 12 (.ixs (.t 10) (.t 11)),
             o1 13 (.bin .or (.t 12) (.c (.int .u8 32))),
             o1 4 (.mv (.t 13))])
            (.seq (.reg [o1 14 (.mv (.t 4)),
              o1 15 (.bin .lss (.t 14) (.c (.int .u8 97))),
              o1 16 (.mv (.t 15)),
              oF 17 (.mv (.t 4)) 16,
              oF 18 (.bin .gtr (.t 17) (.c (.int .u8 122))) 16,
              o1 19 (.pick (.t 16) (cB true) (.t 18)),
              o1 20 (.mv (.t 19)),
              oT 21 (.mv (.t 3)) 20,
              oT 22 (.bin .eql (.t 21) (cI 0)) 20,
              oT 23 (.mv (.t 22)) 20,
              oF 24 (.mv (.t 0)) 23,
              oF 25 (.mv (.t 3)) 23,
              oF 26 (.ixs (.t 24) (.t 25)) 23,
              oF 27 (.bin .lss (.t 26) (.c (.int .u8 48))) 23,
              oT 28 (.pick (.t 23) (cB true) (.t 27)) 20,
              oT 29 (.mv (.t 28)) 20,
              oF 30 (.mv (.t 0)) 29,
              oF 31 (.mv (.t 3)) 29,
              oF 32 (.ixs (.t 30) (.t 31)) 29,
              oF 33 (.bin .gtr (.t 32) (.c (.int .u8 57))) 29,
              oT 34 (.pick (.t 29) (cB true) (.t 33)) 20,
              o1 35 (.pick (.t 20) (.t 34) (cB false))])
             (.cond (.t 35) (.seq (.reg [o1 2 (.mv (cB false))])
               (.ret)) (.skip))))))
         (.reg [o1 36 (.bin .add (.t 7) (cI 1)),
          o1 7 (.mv (.t 36))])))))))
   (.seq (.reg [o1 37 (.mv (.t 0)),
     o1 38 (.bin .neq (.t 37) (.c (.string ⟨#[]⟩))),
     o1 39 (.mv (.t 38)),
     oT 40 (.mv (.t 0)) 39,
     oT 41 (.lenS (.t 40)) 39,
     oT 42 (.bin .leq (.t 41) (cI 12)) 39,
     o1 43 (.pick (.t 39) (.t 42) (cB false)),
     o1 2 (.mv (.t 43))])
    (.ret)))
theorem s68_ok : lookF Try.prog 68 = some (s68, 44, [.tmp 2]) := by kernel_rfl
theorem isName_ok (s : Str) (hs : s.size ≤ 4611686018427387904) : Fn P 68 [strA s] (boolA (nameB s)) := by
  (refine fn_look s68_ok (by simp) (by intro k; simp only [go_sem, Nat.reduceEqDiff, ↓reduceIte, reduceCtorEq, Nat.reduceAdd, Nat.reduceMul, Int.reduceToNat, List.reduceReplicate, Nat.reduceLeDiff, Nat.reduceLT, Int.reduceLT, Int.reduceLE, Int.reduceEq]) fun S hS => cwp_sound _ _ _ _ ?_; simp (disch := omega) only [s68, go_sem, Nat.reduceEqDiff, ↓reduceIte, reduceCtorEq, Nat.reduceAdd, Nat.reduceMul, Int.reduceToNat, List.reduceReplicate, Nat.reduceLeDiff, Nat.reduceLT, Int.reduceLT, Int.reduceLE, Int.reduceEq])
  (refine loopC hS [0, 6] (by simp only [go_sem, Nat.reduceEqDiff, ↓reduceIte, reduceCtorEq, Nat.reduceAdd, Nat.reduceMul, Int.reduceToNat, List.reduceReplicate, Nat.reduceLeDiff, Nat.reduceLT, Int.reduceLT, Int.reduceLE, Int.reduceEq]; try rfl) (fun (i : Nat) => [(7, intA i)]) (fun (i : Nat) => []) (fun (i : Nat) => i ≤ s.size ∧ ∀ j, j < i → nameCh s j = true) (fun (i : Nat) => s.size - i) (0) ?h01 ?hn1 ?rd1; case hn1 => (intro s; first | rfl | (rcases s with ⟨_, _⟩; rfl) | (rcases s with ⟨_, _, _⟩; rfl) | (rcases s with ⟨_, _, _, _⟩; rfl) | (rcases s with ⟨_, _, _, _, _⟩; rfl)))
  · simp (disch := omega) only [go_sem, Nat.reduceEqDiff, ↓reduceIte, reduceCtorEq, Nat.reduceAdd, Nat.reduceMul, Int.reduceToNat, List.reduceReplicate, Nat.reduceLeDiff, Nat.reduceLT, Int.reduceLT, Int.reduceLE, Int.reduceEq]; simp
  rintro i ⟨hi, hall⟩
  replace hi : i ≤ s.size := hi
  replace hall : ∀ j, j < i → nameCh s j = true := hall
  have hb := byteAt_range s i
  have hc : nameCh s i = true ↔ (97 ≤ bits .or .u8 (byteAt s i) 32 ∧ bits .or .u8 (byteAt s i) 32 ≤ 122) ∨ (48 ≤ byteAt s i ∧ byteAt s i ≤ 57 ∧ i ≠ 0) := by
    rw [nameCh, or32 hb]; simp only [Bool.or_eq_true, decide_eq_true_eq]
  by_cases hil : i < s.size
  · have hn : ¬((97 ≤ bits .or .u8 (byteAt s i) 32 ∧ bits .or .u8 (byteAt s i) 32 ≤ 122) ∨ (48 ≤ byteAt s i ∧ byteAt s i ≤ 57 ∧ i ≠ 0)) → nameB s = false := fun h => by
      rw [nameB, allCh_no hil (by rw [← Bool.not_eq_true]; exact fun h2 => h (hc.1 h2))]; rfl
    repeat' (first | with_reducible refine inw ?_ | simp (disch := omega) only [go_sem, Nat.reduceEqDiff, ↓reduceIte, reduceCtorEq, Nat.reduceAdd, Nat.reduceMul, Int.reduceToNat, List.reduceReplicate, Nat.reduceLeDiff, Nat.reduceLT, Int.reduceLT, Int.reduceLE, Int.reduceEq] | with_reducible refine giv_intro fun _h => ?_ | with_reducible refine alt_intro ?_ fun _h => ?_ | with_reducible refine pickD_nil ?_ | (with_reducible refine brc (fun _h => ?_) fun _h => ?_) <;> first | (exfalso; omega) | simp only [decide_eq_false _h] | simp only [(_h : (_ : Bool) = _)] | simp only [decide_eq_true _h] | skip)
    all_goals first
      | exact ⟨i + 1, ⟨by omega, by omega, allCh_step hall (hc.2 (by omega))⟩, by omega⟩
      | exact (hn (by omega)).symm
  · have he : nameB s = (decide (1 ≤ s.size) && decide (s.size ≤ 12)) := by rw [nameB, allCh_yes hil hall, Bool.true_and]
    rw [he]
    have hz := size_zero (s := s)
    repeat' (first | with_reducible refine inw ?_ | simp (disch := omega) only [go_sem, Nat.reduceEqDiff, ↓reduceIte, reduceCtorEq, Nat.reduceAdd, Nat.reduceMul, Int.reduceToNat, List.reduceReplicate, Nat.reduceLeDiff, Nat.reduceLT, Int.reduceLT, Int.reduceLE, Int.reduceEq] | with_reducible refine giv_intro fun _h => ?_ | with_reducible refine alt_intro ?_ fun _h => ?_ | with_reducible refine pickD_nil ?_ | (with_reducible refine brc (fun _h => ?_) fun _h => ?_) <;> first | (exfalso; omega) | simp only [decide_eq_false _h] | simp only [(_h : (_ : Bool) = _)] | simp only [decide_eq_true _h] | skip)
    · have : s.size ≠ 0 := fun h => _h (hz.2 h)
      rw [Bool.eq_iff_iff]; simp; omega
    · rw [decide_eq_false (p := 1 ≤ s.size) (by have := hz.1 _h; omega)]; rfl
/-- ablaut/ablautref09.IsName: 1 parameters, 0 captured -/
def s74 : SC := .seq (.reg [o1 2 (.mv (cB false))])
  (.seq (.seq (.reg [o1 3 (.mv (cI 0))])
    (.block 0 (.loop (.seq (.seq (.reg [o1 6 (.mv (.t 3)),
         o1 7 (.mv (.t 0)),
         o1 8 (.lenS (.t 7)),
         o1 9 (.bin .lss (.t 6) (.t 8))])
        (.cond (.t 9) (.skip) (.exit 0)))
       (.seq (.block 1 (.seq (.reg [o1 12 (.mv (.t 0)),
           o1 13 (.mv (.t 3)),
           o1 14 (.ixs (.t 12) (.t 13)),
           o1 15 (.bin .geq (.t 14) (.c (.int .u8 97))),
           o1 16 (.mv (.t 15)),
           oT 17 (.mv (.t 0)) 16,
           oT 18 (.mv (.t 3)) 16,
           oT 19 (.ixs (.t 17) (.t 18)) 16,
           oT 20 (.bin .leq (.t 19) (.c (.int .u8 122))) 16,
           o1 21 (.pick (.t 16) (.t 20) (cB false)),
           o1 22 (.mv (.t 21)),
           oF 23 (.mv (.t 0)) 22,
           oF 24 (.mv (.t 3)) 22,
           oF 25 (.ixs (.t 23) (.t 24)) 22,
           oF 26 (.bin .geq (.t 25) (.c (.int .u8 65))) 22,
           oF 27 (.mv (.t 26)) 22,
           oT 28 (.mv (.t 0)) 27,
           oT 29 (.mv (.t 3)) 27,
           oT 30 (.ixs (.t 28) (.t 29)) 27,
           oT 31 (.bin .leq (.t 30) (.c (.int .u8 90))) 27,
           oF 32 (.pick (.t 27) (.t 31) (cB false)) 22,
           o1 33 (.pick (.t 22) (cB true) (.t 32)),
           o1 4 (.mv (.t 33))])
          (.seq (.reg [o1 34 (.mv (.t 0)),
            o1 35 (.mv (.t 3)),
            o1 36 (.ixs (.t 34) (.t 35)),
            o1 37 (.bin .geq (.t 36) (.c (.int .u8 48))),
            o1 38 (.mv (.t 37)),
            oT 39 (.mv (.t 0)) 38,
            oT 40 (.mv (.t 3)) 38,
            oT 41 (.ixs (.t 39) (.t 40)) 38,
            oT 42 (.bin .leq (.t 41) (.c (.int .u8 57))) 38,
            o1 43 (.pick (.t 38) (.t 42) (cB false)),
            o1 5 (.mv (.t 43))])
           (.seq (.reg [o1 44 (.mv (.t 4)),
             o1 45 (.un .not (.t 44)),
             o1 46 (.mv (.t 45)),
             oT 47 (.mv (.t 5)) 46,
             oT 48 (.un .not (.t 47)) 46,
             oT 49 (.mv (.t 48)) 46,
             oF 50 (.mv (.t 3)) 49,
             oF 51 (.bin .eql (.t 50) (cI 0)) 49,
             oT 52 (.pick (.t 49) (cB true) (.t 51)) 46,
             o1 53 (.pick (.t 46) (.t 52) (cB false))])
            (.cond (.t 53) (.seq (.reg [o1 2 (.mv (cB false))])
              (.ret)) (.skip))))))
        (.reg [o1 10 (.mv (.t 3)),
         o1 11 (.bin .add (.t 10) (cI 1)),
         o1 3 (.mv (.t 11))]))))))
   (.seq (.reg [o1 54 (.mv (.t 0)),
     o1 55 (.lenS (.t 54)),
     o1 56 (.bin .geq (.t 55) (cI 1)),
     o1 57 (.mv (.t 56)),
     oT 58 (.mv (.t 0)) 57,
     oT 59 (.lenS (.t 58)) 57,
     oT 60 (.bin .leq (.t 59) (cI 12)) 57,
     o1 61 (.pick (.t 57) (.t 60) (cB false)),
     o1 2 (.mv (.t 61))])
    (.ret)))
theorem s74_ok : lookF Try.prog 74 = some (s74, 62, [.tmp 2]) := by kernel_rfl
theorem IsName_ok (s : Str) (hs : s.size ≤ 4611686018427387904) : Fn P 74 [strA s] (boolA (nameB s)) := by
  (refine fn_look s74_ok (by simp) (by intro k; simp only [go_sem, Nat.reduceEqDiff, ↓reduceIte, reduceCtorEq, Nat.reduceAdd, Nat.reduceMul, Int.reduceToNat, List.reduceReplicate, Nat.reduceLeDiff, Nat.reduceLT, Int.reduceLT, Int.reduceLE, Int.reduceEq]) fun S hS => cwp_sound _ _ _ _ ?_; simp (disch := omega) only [s74, go_sem, Nat.reduceEqDiff, ↓reduceIte, reduceCtorEq, Nat.reduceAdd, Nat.reduceMul, Int.reduceToNat, List.reduceReplicate, Nat.reduceLeDiff, Nat.reduceLT, Int.reduceLT, Int.reduceLE, Int.reduceEq])
  (refine loopC hS [0] (by simp only [go_sem, Nat.reduceEqDiff, ↓reduceIte, reduceCtorEq, Nat.reduceAdd, Nat.reduceMul, Int.reduceToNat, List.reduceReplicate, Nat.reduceLeDiff, Nat.reduceLT, Int.reduceLT, Int.reduceLE, Int.reduceEq]; try rfl) (fun (i : Nat) => [(3, intA i)]) (fun (i : Nat) => []) (fun (i : Nat) => i ≤ s.size ∧ ∀ j, j < i → nameCh s j = true) (fun (i : Nat) => s.size - i) (0) ?h02 ?hn2 ?rd2; case hn2 => (intro s; first | rfl | (rcases s with ⟨_, _⟩; rfl) | (rcases s with ⟨_, _, _⟩; rfl) | (rcases s with ⟨_, _, _, _⟩; rfl) | (rcases s with ⟨_, _, _, _, _⟩; rfl)))
  · simp (disch := omega) only [go_sem, Nat.reduceEqDiff, ↓reduceIte, reduceCtorEq, Nat.reduceAdd, Nat.reduceMul, Int.reduceToNat, List.reduceReplicate, Nat.reduceLeDiff, Nat.reduceLT, Int.reduceLT, Int.reduceLE, Int.reduceEq]; simp
  rintro i ⟨hi, hall⟩
  replace hi : i ≤ s.size := hi
  replace hall : ∀ j, j < i → nameCh s j = true := hall
  have hb := byteAt_range s i
  have hc : nameCh s i = true ↔ (97 ≤ byteAt s i ∧ byteAt s i ≤ 122 ∨ 65 ≤ byteAt s i ∧ byteAt s i ≤ 90) ∨ (48 ≤ byteAt s i ∧ byteAt s i ≤ 57 ∧ i ≠ 0) := by
    rw [nameCh, letB]; simp only [Bool.or_eq_true, decide_eq_true_eq]
  repeat' (first | with_reducible refine inw ?_ | simp (disch := omega) only [go_sem, Nat.reduceEqDiff, ↓reduceIte, reduceCtorEq, Nat.reduceAdd, Nat.reduceMul, Int.reduceToNat, List.reduceReplicate, Nat.reduceLeDiff, Nat.reduceLT, Int.reduceLT, Int.reduceLE, Int.reduceEq] | with_reducible refine giv_intro fun _h => ?_ | with_reducible refine alt_intro ?_ fun _h => ?_ | with_reducible refine pickD_nil ?_ | (with_reducible refine brc (fun _h => ?_) fun _h => ?_) <;> first | (exfalso; omega) | simp only [decide_eq_false _h] | simp only [(_h : (_ : Bool) = _)] | simp only [decide_eq_true _h] | skip)
  all_goals first
    | exact ⟨i + 1, ⟨by omega, by omega, allCh_step hall (hc.2 (by omega))⟩, by omega⟩
    | (rw [nameB, allCh_no (i := i) (by omega) (by rw [← Bool.not_eq_true]; intro h; have := hc.1 h; omega)]; rfl)
    | (rw [nameB, allCh_yes (by omega) hall, Bool.true_and, Bool.eq_iff_iff]; simp; omega)

def namesB (l : List Str) : Bool := decide (∀ i, i < l.length → nameB (nth l i) = true)
def ascB (l : List Str) : Bool := decide (∀ i, i < l.length → 0 < i → ltB (nth l (i - 1)) (nth l i) = true)
def setB (l : List Str) : Bool := namesB l && ascB l
theorem allN_no {p : Nat → Prop} {n i : Nat} (h1 : i < n) (h2 : ¬p i) [Decidable (∀ i, i < n → p i)] : decide (∀ i, i < n → p i) = false := decide_eq_false fun h => h2 (h i h1)
theorem allN_yes {p : Nat → Prop} {n i : Nat} (h1 : ¬i < n) (h2 : ∀ j, j < i → p j) [Decidable (∀ i, i < n → p i)] : decide (∀ i, i < n → p i) = true := decide_eq_true fun j hj => h2 j (by omega)
/-- ablaut/depend.isSet: 1 parameters, 0 captured -/
def s56 : SC := .seq (.reg [o1 2 (.mv (cB false))])
  (.seq (.seq (.reg [o1 5 (.mv (.t 0)),
     o1 6 (.lenL (.t 5)),
     o1 7 (.mv (cI 0))])
    (.block 0 (.loop (.seq (.reg [o1 8 (.bin .lss (.t 7) (.t 6))])
       (.seq (.cond (.t 8) (.skip) (.exit 0))
        (.seq (.block 1 (.seq (.reg [o1 9 (.mv (.t 7)),
            o1 10 (.iaddr 1 (.t 5) (.t 7)),
            o1 11 (.load none (.t 10)),
            o1 3 (.mv (.t 9)),
            o1 4 (.mv (.t 11))])
           (.seq (.reg [o1 12 (.mv (.t 4)),
             o1 13 (.call (.f 68) [(.t 12)]),
             o1 14 (.un .not (.t 13)),
             o1 15 (.mv (.t 14)),
             oF 16 (.mv (.t 3)) 15,
             oF 17 (.bin .gtr (.t 16) (cI 0)) 15,
             oF 18 (.mv (.t 17)) 15,
             oT 19 (.mv (.t 0)) 18,
             oT 20 (.mv (.t 3)) 18,
             oT 21 (.bin .sub (.t 20) (cI 1)) 18,
             oT 22 (.iaddr 1 (.t 19) (.t 21)) 18,
             oT 23 (.load none (.t 22)) 18,
             oT 24 (.mv (.t 4)) 18,
             oT 25 (.bin .geq (.t 23) (.t 24)) 18,
             oF 26 (.pick (.t 18) (.t 25) (cB false)) 15,
             o1 27 (.pick (.t 15) (cB true) (.t 26))])
            (.cond (.t 27) (.seq (.reg [o1 2 (.mv (cB false))])
              (.ret)) (.skip)))))
         (.reg [o1 28 (.bin .add (.t 7) (cI 1)),
          o1 7 (.mv (.t 28))])))))))
   (.seq (.reg [o1 2 (.mv (cB true))])
    (.ret)))
theorem s56_ok : lookF Try.prog 56 = some (s56, 29, [.tmp 2]) := by kernel_rfl
theorem isSet_ok (l : List Str) (hs : ∀ s ∈ l, s.size ≤ 4611686018427387904) : Fn P 56 [sl l] (boolA (setB l)) := by
  (refine fn_look s56_ok (by simp) (by intro k; simp only [go_sem, Nat.reduceEqDiff, ↓reduceIte, reduceCtorEq, Nat.reduceAdd, Nat.reduceMul, Int.reduceToNat, List.reduceReplicate, Nat.reduceLeDiff, Nat.reduceLT, Int.reduceLT, Int.reduceLE, Int.reduceEq]) fun S hS => cwp_sound _ _ _ _ ?_; simp (disch := omega) only [s56, go_sem, Nat.reduceEqDiff, ↓reduceIte, reduceCtorEq, Nat.reduceAdd, Nat.reduceMul, Int.reduceToNat, List.reduceReplicate, Nat.reduceLeDiff, Nat.reduceLT, Int.reduceLT, Int.reduceLE, Int.reduceEq])
  repeat' (first | with_reducible refine inw ?_ | simp (disch := omega) only [go_sem, Nat.reduceEqDiff, ↓reduceIte, reduceCtorEq, Nat.reduceAdd, Nat.reduceMul, Int.reduceToNat, List.reduceReplicate, Nat.reduceLeDiff, Nat.reduceLT, Int.reduceLT, Int.reduceLE, Int.reduceEq] | with_reducible refine giv_intro fun _h => ?_ | with_reducible refine alt_intro ?_ fun _h => ?_ | with_reducible refine pickD_nil ?_ | (with_reducible refine brc (fun _h => ?_) fun _h => ?_) <;> first | (exfalso; omega) | simp only [decide_eq_false _h] | simp only [(_h : (_ : Bool) = _)] | simp only [decide_eq_true _h] | skip)
  (refine loopC hS [0, 5, 6] (by simp only [go_sem, Nat.reduceEqDiff, ↓reduceIte, reduceCtorEq, Nat.reduceAdd, Nat.reduceMul, Int.reduceToNat, List.reduceReplicate, Nat.reduceLeDiff, Nat.reduceLT, Int.reduceLT, Int.reduceLE, Int.reduceEq]; try rfl) (fun (i : Nat) => [(7, intA i)]) (fun (i : Nat) => []) (fun (i : Nat) => i ≤ l.length ∧ (∀ j, j < i → nameB (nth l j) = true) ∧ (∀ j, j < i → 0 < j → ltB (nth l (j - 1)) (nth l j) = true)) (fun (i : Nat) => l.length - i) (0) ?h03 ?hn3 ?rd3; case hn3 => (intro s; first | rfl | (rcases s with ⟨_, _⟩; rfl) | (rcases s with ⟨_, _, _⟩; rfl) | (rcases s with ⟨_, _, _, _⟩; rfl) | (rcases s with ⟨_, _, _, _, _⟩; rfl)))
  · simp (disch := omega) only [go_sem, Nat.reduceEqDiff, ↓reduceIte, reduceCtorEq, Nat.reduceAdd, Nat.reduceMul, Int.reduceToNat, List.reduceReplicate, Nat.reduceLeDiff, Nat.reduceLT, Int.reduceLT, Int.reduceLE, Int.reduceEq]; simp
  rintro i ⟨hi, h1, h2⟩
  replace hi : i ≤ l.length := hi
  replace h1 : ∀ j, j < i → nameB (nth l j) = true := h1
  replace h2 : ∀ j, j < i → 0 < j → ltB (nth l (j - 1)) (nth l j) = true := h2
  by_cases hil : i < l.length
  · have c1 := isName_ok (nth l i) (hs _ (nth_mem hil))
    by_cases h0 : i = 0
    · subst h0
      have e0 := head_cells hil
      rw [List.drop_zero] at e0
      repeat' (first | with_reducible refine inw ?_ | simp (disch := omega) only [go_sem, Nat.reduceEqDiff, ↓reduceIte, reduceCtorEq, Nat.reduceAdd, Nat.reduceMul, Int.reduceToNat, List.reduceReplicate, Nat.reduceLeDiff, Nat.reduceLT, Int.reduceLT, Int.reduceLE, Int.reduceEq, e0] | (with_reducible apply call (c1)); (focus simp (disch := omega) only [go_sem, Nat.reduceEqDiff, ↓reduceIte, reduceCtorEq, Nat.reduceAdd, Nat.reduceMul, Int.reduceToNat, List.reduceReplicate, Nat.reduceLeDiff, Nat.reduceLT, Int.reduceLT, Int.reduceLE, Int.reduceEq, e0] <;> rfl) | with_reducible refine giv_intro fun _h => ?_ | with_reducible refine alt_intro ?_ fun _h => ?_ | with_reducible refine pickD_nil ?_ | (with_reducible refine brc (fun _h => ?_) fun _h => ?_) <;> first | (exfalso; omega) | simp only [decide_eq_false _h] | simp only [(_h : (_ : Bool) = _)] | simp only [decide_eq_true _h] | skip)
      all_goals first
        | exact ⟨1, ⟨by omega, by omega, allN_step h1 _h, allN_step h2 (by omega)⟩, rfl⟩
        | (rw [setB, namesB, allN_no hil (by rw [_h]; simp)]; rfl)
    · have e1 : ((i : Int) - 1) = ((i - 1 : Nat) : Int) := by omega
      repeat' (first | with_reducible refine inw ?_ | simp (disch := omega) only [go_sem, Nat.reduceEqDiff, ↓reduceIte, reduceCtorEq, Nat.reduceAdd, Nat.reduceMul, Int.reduceToNat, List.reduceReplicate, Nat.reduceLeDiff, Nat.reduceLT, Int.reduceLT, Int.reduceLE, Int.reduceEq, e1] | (with_reducible apply call (c1)); (focus simp (disch := omega) only [go_sem, Nat.reduceEqDiff, ↓reduceIte, reduceCtorEq, Nat.reduceAdd, Nat.reduceMul, Int.reduceToNat, List.reduceReplicate, Nat.reduceLeDiff, Nat.reduceLT, Int.reduceLT, Int.reduceLE, Int.reduceEq, e1] <;> rfl) | with_reducible refine giv_intro fun _h => ?_ | with_reducible refine alt_intro ?_ fun _h => ?_ | with_reducible refine pickD_nil ?_ | (with_reducible refine brc (fun _h => ?_) fun _h => ?_) <;> first | (exfalso; omega) | simp only [decide_eq_false _h] | simp only [(_h : (_ : Bool) = _)] | simp only [decide_eq_true _h] | skip)
      all_goals first
        | exact ⟨i + 1, ⟨by omega, by omega, allN_step h1 (by assumption), allN_step h2 fun _ => _h⟩, by omega⟩
        | (rw [setB, namesB, allN_no hil (by rw [_h]; simp)]; rfl)
        | (rw [setB, ascB, allN_no (p := fun i => 0 < i → ltB (nth l (i - 1)) (nth l i) = true) hil (fun h => by rw [h (by omega)] at _h; cases _h), Bool.and_false])
  · repeat' (first | with_reducible refine inw ?_ | simp (disch := omega) only [go_sem, Nat.reduceEqDiff, ↓reduceIte, reduceCtorEq, Nat.reduceAdd, Nat.reduceMul, Int.reduceToNat, List.reduceReplicate, Nat.reduceLeDiff, Nat.reduceLT, Int.reduceLT, Int.reduceLE, Int.reduceEq] | with_reducible refine giv_intro fun _h => ?_ | with_reducible refine alt_intro ?_ fun _h => ?_ | with_reducible refine pickD_nil ?_ | (with_reducible refine brc (fun _h => ?_) fun _h => ?_) <;> first | (exfalso; omega) | simp only [decide_eq_false _h] | simp only [(_h : (_ : Bool) = _)] | simp only [decide_eq_true _h] | skip)
    rw [setB, namesB, ascB, allN_yes hil h1, allN_yes (p := fun i => 0 < i → ltB (nth l (i - 1)) (nth l i) = true) hil h2]; rfl
/-- ablaut/ablautref01.IsSet: 1 parameters, 0 captured -/
def s83 : SC := .seq (.reg [o1 2 (.mv (cB false))])
  (.seq (.seq (.reg [o1 3 (.mv (cI 1))])
    (.block 0 (.loop (.seq (.seq (.reg [o1 4 (.mv (.t 3)),
         o1 5 (.mv (.t 0)),
         o1 6 (.lenL (.t 5)),
         o1 7 (.bin .lss (.t 4) (.t 6))])
        (.cond (.t 7) (.skip) (.exit 0)))
       (.seq (.block 1 (.seq (.regD [o1 10 (.mv (.t 0)),
           o1 11 (.mv (.t 3)),
           o1 12 (.bin .sub (.t 11) (cI 1)),
           o1 13 (.iaddr 1 (.t 10) (.t 12)),
           o1 14 (.load none (.t 13)),
           o1 15 (.mv (.t 0)),
           o1 16 (.mv (.t 3)),
           o1 17 (.iaddr 1 (.t 15) (.t 16)),
           o1 18 (.load none (.t 17)),
           o1 19 (.bin .geq (.t 14) (.t 18))])
          (.cond (.t 19) (.seq (.reg [o1 2 (.mv (cB false))])
            (.ret)) (.skip))))
        (.reg [o1 8 (.mv (.t 3)),
         o1 9 (.bin .add (.t 8) (cI 1)),
         o1 3 (.mv (.t 9))]))))))
   (.seq (.reg [o1 2 (.mv (cB true))])
    (.ret)))
theorem s83_ok : lookF Try.prog 83 = some (s83, 20, [.tmp 2]) := by kernel_rfl
theorem rIsSet_ok (l : List Str) (hl : l.length ≤ 4611686018427387904) : Fn P 83 [sl l] (boolA (ascB l)) := by
  (refine fn_look s83_ok (by simp) (by intro k; simp only [go_sem, Nat.reduceEqDiff, ↓reduceIte, reduceCtorEq, Nat.reduceAdd, Nat.reduceMul, Int.reduceToNat, List.reduceReplicate, Nat.reduceLeDiff, Nat.reduceLT, Int.reduceLT, Int.reduceLE, Int.reduceEq]) fun S hS => cwp_sound _ _ _ _ ?_; simp (disch := omega) only [s83, go_sem, Nat.reduceEqDiff, ↓reduceIte, reduceCtorEq, Nat.reduceAdd, Nat.reduceMul, Int.reduceToNat, List.reduceReplicate, Nat.reduceLeDiff, Nat.reduceLT, Int.reduceLT, Int.reduceLE, Int.reduceEq])
  (refine loopC hS [0] (by simp only [go_sem, Nat.reduceEqDiff, ↓reduceIte, reduceCtorEq, Nat.reduceAdd, Nat.reduceMul, Int.reduceToNat, List.reduceReplicate, Nat.reduceLeDiff, Nat.reduceLT, Int.reduceLT, Int.reduceLE, Int.reduceEq]; try rfl) (fun (i : Nat) => [(3, intA ((i : Int) + 1))]) (fun (i : Nat) => []) (fun (i : Nat) => (i ≤ l.length) ∧ (∀ j, j < i + 1 → 0 < j → ltB (nth l (j - 1)) (nth l j) = true)) (fun (i : Nat) => l.length - i) (0) ?h04 ?hn4 ?rd4; case hn4 => (intro s; first | rfl | (rcases s with ⟨_, _⟩; rfl) | (rcases s with ⟨_, _, _⟩; rfl) | (rcases s with ⟨_, _, _, _⟩; rfl) | (rcases s with ⟨_, _, _, _, _⟩; rfl)))
  · simp (disch := omega) only [go_sem, Nat.reduceEqDiff, ↓reduceIte, reduceCtorEq, Nat.reduceAdd, Nat.reduceMul, Int.reduceToNat, List.reduceReplicate, Nat.reduceLeDiff, Nat.reduceLT, Int.reduceLT, Int.reduceLE, Int.reduceEq]; simp
  rintro i ⟨hi, h2⟩
  replace hi : i ≤ l.length := hi
  replace h2 : ∀ j, j < i + 1 → 0 < j → ltB (nth l (j - 1)) (nth l j) = true := h2
  by_cases hil : i + 1 < l.length
  · have e1 : ((i : Int) + 1) = ((i + 1 : Nat) : Int) := by omega
    have e2 : (((i + 1 : Nat) : Int) - 1) = (i : Int) := by omega
    rw [e1]
    repeat' (first | with_reducible refine inw ?_ | simp (disch := omega) only [go_sem, Nat.reduceEqDiff, ↓reduceIte, reduceCtorEq, Nat.reduceAdd, Nat.reduceMul, Int.reduceToNat, List.reduceReplicate, Nat.reduceLeDiff, Nat.reduceLT, Int.reduceLT, Int.reduceLE, Int.reduceEq, e2] | with_reducible refine giv_intro fun _h => ?_ | with_reducible refine alt_intro ?_ fun _h => ?_ | with_reducible refine pickD_nil ?_ | (with_reducible refine brc (fun _h => ?_) fun _h => ?_) <;> first | (exfalso; omega) | simp only [decide_eq_false _h] | simp only [(_h : (_ : Bool) = _)] | simp only [decide_eq_true _h] | skip)
    · rw [ascB, allN_no (p := fun i => 0 < i → ltB (nth l (i - 1)) (nth l i) = true) hil (fun h => by have := h (by omega); rw [Nat.add_sub_cancel, _h] at this; cases this)]
    · exact ⟨i + 1, ⟨by omega, by omega, allN_step h2 fun _ => by rw [Nat.add_sub_cancel]; exact _h⟩, by omega⟩
  · repeat' (first | with_reducible refine inw ?_ | simp (disch := omega) only [go_sem, Nat.reduceEqDiff, ↓reduceIte, reduceCtorEq, Nat.reduceAdd, Nat.reduceMul, Int.reduceToNat, List.reduceReplicate, Nat.reduceLeDiff, Nat.reduceLT, Int.reduceLT, Int.reduceLE, Int.reduceEq] | with_reducible refine giv_intro fun _h => ?_ | with_reducible refine alt_intro ?_ fun _h => ?_ | with_reducible refine pickD_nil ?_ | (with_reducible refine brc (fun _h => ?_) fun _h => ?_) <;> first | (exfalso; omega) | simp only [decide_eq_false _h] | simp only [(_h : (_ : Bool) = _)] | simp only [decide_eq_true _h] | skip)
    rw [ascB, allN_yes (p := fun i => 0 < i → ltB (nth l (i - 1)) (nth l i) = true) hil h2]
/-- ablaut/ablautref21.IsNames: 1 parameters, 0 captured -/
def s57 : SC := .seq (.reg [o1 2 (.mv (cB false))])
  (.seq (.seq (.reg [o1 3 (.mv (cI 0))])
    (.block 0 (.loop (.seq (.seq (.reg [o1 4 (.mv (.t 3)),
         o1 5 (.mv (.t 0)),
         o1 6 (.lenL (.t 5)),
         o1 7 (.bin .lss (.t 4) (.t 6))])
        (.cond (.t 7) (.skip) (.exit 0)))
       (.seq (.block 1 (.seq (.reg [o1 10 (.mv (.t 0)),
           o1 11 (.mv (.t 3)),
           o1 12 (.iaddr 1 (.t 10) (.t 11)),
           o1 13 (.load none (.t 12)),
           o1 14 (.call (.f 74) [(.t 13)]),
           o1 15 (.un .not (.t 14))])
          (.cond (.t 15) (.seq (.reg [o1 2 (.mv (cB false))])
            (.ret)) (.skip))))
        (.reg [o1 8 (.mv (.t 3)),
         o1 9 (.bin .add (.t 8) (cI 1)),
         o1 3 (.mv (.t 9))]))))))
   (.seq (.reg [o1 16 (.mv (.t 0)),
     o1 17 (.call (.f 83) [(.t 16)]),
     o1 2 (.mv (.t 17))])
    (.ret)))
theorem s57_ok : lookF Try.prog 57 = some (s57, 18, [.tmp 2]) := by kernel_rfl
theorem IsNames_ok (l : List Str) (hl : l.length ≤ 4611686018427387904) (hs : ∀ s ∈ l, s.size ≤ 4611686018427387904) : Fn P 57 [sl l] (boolA (setB l)) := by
  (refine fn_look s57_ok (by simp) (by intro k; simp only [go_sem, Nat.reduceEqDiff, ↓reduceIte, reduceCtorEq, Nat.reduceAdd, Nat.reduceMul, Int.reduceToNat, List.reduceReplicate, Nat.reduceLeDiff, Nat.reduceLT, Int.reduceLT, Int.reduceLE, Int.reduceEq]) fun S hS => cwp_sound _ _ _ _ ?_; simp (disch := omega) only [s57, go_sem, Nat.reduceEqDiff, ↓reduceIte, reduceCtorEq, Nat.reduceAdd, Nat.reduceMul, Int.reduceToNat, List.reduceReplicate, Nat.reduceLeDiff, Nat.reduceLT, Int.reduceLT, Int.reduceLE, Int.reduceEq])
  (refine loopC hS [0] (by simp only [go_sem, Nat.reduceEqDiff, ↓reduceIte, reduceCtorEq, Nat.reduceAdd, Nat.reduceMul, Int.reduceToNat, List.reduceReplicate, Nat.reduceLeDiff, Nat.reduceLT, Int.reduceLT, Int.reduceLE, Int.reduceEq]; try rfl) (fun (i : Nat) => [(3, intA i)]) (fun (i : Nat) => []) (fun (i : Nat) => i ≤ l.length ∧ (∀ j, j < i → nameB (nth l j) = true)) (fun (i : Nat) => l.length - i) (0) ?h05 ?hn5 ?rd5; case hn5 => (intro s; first | rfl | (rcases s with ⟨_, _⟩; rfl) | (rcases s with ⟨_, _, _⟩; rfl) | (rcases s with ⟨_, _, _, _⟩; rfl) | (rcases s with ⟨_, _, _, _, _⟩; rfl)))
  · simp (disch := omega) only [go_sem, Nat.reduceEqDiff, ↓reduceIte, reduceCtorEq, Nat.reduceAdd, Nat.reduceMul, Int.reduceToNat, List.reduceReplicate, Nat.reduceLeDiff, Nat.reduceLT, Int.reduceLT, Int.reduceLE, Int.reduceEq]; simp
  rintro i ⟨hi, h1⟩
  replace hi : i ≤ l.length := hi
  replace h1 : ∀ j, j < i → nameB (nth l j) = true := h1
  by_cases hil : i < l.length
  · repeat' (first | with_reducible refine inw ?_ | simp (disch := omega) only [go_sem, Nat.reduceEqDiff, ↓reduceIte, reduceCtorEq, Nat.reduceAdd, Nat.reduceMul, Int.reduceToNat, List.reduceReplicate, Nat.reduceLeDiff, Nat.reduceLT, Int.reduceLT, Int.reduceLE, Int.reduceEq] | (with_reducible apply call (IsName_ok (nth l i) (hs _ (nth_mem hil)))); (focus simp (disch := omega) only [go_sem, Nat.reduceEqDiff, ↓reduceIte, reduceCtorEq, Nat.reduceAdd, Nat.reduceMul, Int.reduceToNat, List.reduceReplicate, Nat.reduceLeDiff, Nat.reduceLT, Int.reduceLT, Int.reduceLE, Int.reduceEq] <;> rfl) | with_reducible refine giv_intro fun _h => ?_ | with_reducible refine alt_intro ?_ fun _h => ?_ | with_reducible refine pickD_nil ?_ | (with_reducible refine brc (fun _h => ?_) fun _h => ?_) <;> first | (exfalso; omega) | simp only [decide_eq_false _h] | simp only [(_h : (_ : Bool) = _)] | simp only [decide_eq_true _h] | skip)
    all_goals first
      | exact ⟨i + 1, ⟨by omega, by omega, allN_step h1 _h⟩, by omega⟩
      | (rw [setB, namesB, allN_no hil (by rw [_h]; simp)]; rfl)
  · repeat' (first | with_reducible refine inw ?_ | simp (disch := omega) only [go_sem, Nat.reduceEqDiff, ↓reduceIte, reduceCtorEq, Nat.reduceAdd, Nat.reduceMul, Int.reduceToNat, List.reduceReplicate, Nat.reduceLeDiff, Nat.reduceLT, Int.reduceLT, Int.reduceLE, Int.reduceEq] | (with_reducible apply call (rIsSet_ok l hl)); (focus simp (disch := omega) only [go_sem, Nat.reduceEqDiff, ↓reduceIte, reduceCtorEq, Nat.reduceAdd, Nat.reduceMul, Int.reduceToNat, List.reduceReplicate, Nat.reduceLeDiff, Nat.reduceLT, Int.reduceLT, Int.reduceLE, Int.reduceEq] <;> rfl) | with_reducible refine giv_intro fun _h => ?_ | with_reducible refine alt_intro ?_ fun _h => ?_ | with_reducible refine pickD_nil ?_ | (with_reducible refine brc (fun _h => ?_) fun _h => ?_) <;> first | (exfalso; omega) | simp only [decide_eq_false _h] | simp only [(_h : (_ : Bool) = _)] | simp only [decide_eq_true _h] | skip)
    rw [setB, namesB, allN_yes hil h1]; rfl

/-- slices.Index[[]string,string]: 2 parameters, 0 captured -/
def s89 : SC := .seq (.reg [o1 4 (.mv (cI 0))])
  (.seq (.seq (.reg [o1 6 (.mv (.t 0)),
     o1 7 (.lenL (.t 6)),
     o1 8 (.mv (cI 0))])
    (.block 0 (.loop (.seq (.reg [o1 9 (.bin .lss (.t 8) (.t 7))])
       (.seq (.cond (.t 9) (.skip) (.exit 0))
        (.seq (.block 1 (.seq (.reg [o1 10 (.mv (.t 8)),
            o1 5 (.mv (.t 10))])
           (.seq (.reg [o1 11 (.mv (.t 1)),
             o1 12 (.mv (.t 0)),
             o1 13 (.mv (.t 5)),
             o1 14 (.iaddr 1 (.t 12) (.t 13)),
             o1 15 (.load none (.t 14)),
             o1 16 (.bin .eql (.t 11) (.t 15))])
            (.cond (.t 16) (.seq (.reg [o1 17 (.mv (.t 5)),
               o1 4 (.mv (.t 17))])
              (.ret)) (.skip)))))
         (.reg [o1 18 (.bin .add (.t 8) (cI 1)),
          o1 8 (.mv (.t 18))])))))))
   (.seq (.reg [o1 4 (.mv (cI (-1)))])
    (.ret)))
theorem s89_ok : lookF Try.prog 89 = some (s89, 19, [.tmp 4]) := by kernel_rfl
def idxI (l : List Str) (x : Str) : Int := match l.findIdx? (fun y => decide (x = y)) with | some i => (i : Int) | none => -1
theorem index_ok (l : List Str) (x : Str) : Fn P 89 [sl l, strA x] (intA (idxI l x)) := by
  (refine fn_look s89_ok (by simp) (by intro k; simp only [go_sem, Nat.reduceEqDiff, ↓reduceIte, reduceCtorEq, Nat.reduceAdd, Nat.reduceMul, Int.reduceToNat, List.reduceReplicate, Nat.reduceLeDiff, Nat.reduceLT, Int.reduceLT, Int.reduceLE, Int.reduceEq]) fun S hS => cwp_sound _ _ _ _ ?_; simp (disch := omega) only [s89, go_sem, Nat.reduceEqDiff, ↓reduceIte, reduceCtorEq, Nat.reduceAdd, Nat.reduceMul, Int.reduceToNat, List.reduceReplicate, Nat.reduceLeDiff, Nat.reduceLT, Int.reduceLT, Int.reduceLE, Int.reduceEq])
  repeat' (first | with_reducible refine inw ?_ | simp (disch := omega) only [go_sem, Nat.reduceEqDiff, ↓reduceIte, reduceCtorEq, Nat.reduceAdd, Nat.reduceMul, Int.reduceToNat, List.reduceReplicate, Nat.reduceLeDiff, Nat.reduceLT, Int.reduceLT, Int.reduceLE, Int.reduceEq] | with_reducible refine giv_intro fun _h => ?_ | with_reducible refine alt_intro ?_ fun _h => ?_ | with_reducible refine pickD_nil ?_ | (with_reducible refine brc (fun _h => ?_) fun _h => ?_) <;> first | (exfalso; omega) | simp only [decide_eq_false _h] | simp only [(_h : (_ : Bool) = _)] | simp only [decide_eq_true _h] | skip)
  (refine loopC hS [0, 1, 7] (by simp only [go_sem, Nat.reduceEqDiff, ↓reduceIte, reduceCtorEq, Nat.reduceAdd, Nat.reduceMul, Int.reduceToNat, List.reduceReplicate, Nat.reduceLeDiff, Nat.reduceLT, Int.reduceLT, Int.reduceLE, Int.reduceEq]; try rfl) (fun (i : Nat) => [(8, intA i)]) (fun (i : Nat) => []) (fun (i : Nat) => i ≤ l.length ∧ l.findIdx? (fun y => decide (x = y)) = ((l.drop i).findIdx? (fun y => decide (x = y))).map (· + i)) (fun (i : Nat) => l.length - i) (0) ?h06 ?hn6 ?rd6; case hn6 => (intro s; first | rfl | (rcases s with ⟨_, _⟩; rfl) | (rcases s with ⟨_, _, _⟩; rfl) | (rcases s with ⟨_, _, _, _⟩; rfl) | (rcases s with ⟨_, _, _, _, _⟩; rfl)))
  · simp (disch := omega) only [go_sem, Nat.reduceEqDiff, ↓reduceIte, reduceCtorEq, Nat.reduceAdd, Nat.reduceMul, Int.reduceToNat, List.reduceReplicate, Nat.reduceLeDiff, Nat.reduceLT, Int.reduceLT, Int.reduceLE, Int.reduceEq]; simp
  rintro i ⟨hi, hI⟩
  replace hi : i ≤ l.length := hi
  replace hI : l.findIdx? (fun y => decide (x = y)) = ((l.drop i).findIdx? (fun y => decide (x = y))).map (· + i) := hI
  repeat' (first | with_reducible refine inw ?_ | simp (disch := omega) only [go_sem, Nat.reduceEqDiff, ↓reduceIte, reduceCtorEq, Nat.reduceAdd, Nat.reduceMul, Int.reduceToNat, List.reduceReplicate, Nat.reduceLeDiff, Nat.reduceLT, Int.reduceLT, Int.reduceLE, Int.reduceEq] | with_reducible refine giv_intro fun _h => ?_ | with_reducible refine alt_intro ?_ fun _h => ?_ | with_reducible refine pickD_nil ?_ | (with_reducible refine brc (fun _h => ?_) fun _h => ?_) <;> first | (exfalso; omega) | simp only [decide_eq_false _h] | simp only [(_h : (_ : Bool) = _)] | simp only [decide_eq_true _h] | skip)
  · rw [idxI, hI, nth_drop (by assumption)]
    simp_all [List.findIdx?_cons]
  · refine ⟨i + 1, ⟨by omega, by omega, ?_⟩, by omega⟩
    rw [hI, nth_drop (by assumption), List.findIdx?_cons]
    simp_all [Function.comp_def, Nat.add_comm, Nat.add_left_comm]
  · rw [idxI, hI, List.drop_eq_nil_of_le (by omega)]; rfl
def inB (x : Str) (l : List Str) : Bool := l.any fun y => decide (x = y)
/-- slices.Contains[[]string,string]: 2 parameters, 0 captured -/
def s73 : SC := .seq (.reg [o1 4 (.mv (cB false))])
  (.seq (.reg [o1 5 (.mv (.t 0)),
    o1 6 (.mv (.t 1)),
    o1 7 (.call (.f 89) [(.t 5), (.t 6)]),
    o1 8 (.bin .geq (.t 7) (cI 0)),
    o1 4 (.mv (.t 8))])
   (.ret))
theorem s73_ok : lookF Try.prog 73 = some (s73, 9, [.tmp 4]) := by kernel_rfl
theorem contains_ok (l : List Str) (x : Str) : Fn P 73 [sl l, strA x] (boolA (inB x l)) := by
  (refine fn_look s73_ok (by simp) (by intro k; simp only [go_sem, Nat.reduceEqDiff, ↓reduceIte, reduceCtorEq, Nat.reduceAdd, Nat.reduceMul, Int.reduceToNat, List.reduceReplicate, Nat.reduceLeDiff, Nat.reduceLT, Int.reduceLT, Int.reduceLE, Int.reduceEq]) fun S hS => cwp_sound _ _ _ _ ?_; simp (disch := omega) only [s73, go_sem, Nat.reduceEqDiff, ↓reduceIte, reduceCtorEq, Nat.reduceAdd, Nat.reduceMul, Int.reduceToNat, List.reduceReplicate, Nat.reduceLeDiff, Nat.reduceLT, Int.reduceLT, Int.reduceLE, Int.reduceEq])
  repeat' (first | with_reducible refine inw ?_ | simp (disch := omega) only [go_sem, Nat.reduceEqDiff, ↓reduceIte, reduceCtorEq, Nat.reduceAdd, Nat.reduceMul, Int.reduceToNat, List.reduceReplicate, Nat.reduceLeDiff, Nat.reduceLT, Int.reduceLT, Int.reduceLE, Int.reduceEq] | (with_reducible apply call (index_ok l x)); (focus simp (disch := omega) only [go_sem, Nat.reduceEqDiff, ↓reduceIte, reduceCtorEq, Nat.reduceAdd, Nat.reduceMul, Int.reduceToNat, List.reduceReplicate, Nat.reduceLeDiff, Nat.reduceLT, Int.reduceLT, Int.reduceLE, Int.reduceEq] <;> rfl) | with_reducible refine giv_intro fun _h => ?_ | with_reducible refine alt_intro ?_ fun _h => ?_ | with_reducible refine pickD_nil ?_ | (with_reducible refine brc (fun _h => ?_) fun _h => ?_) <;> first | (exfalso; omega) | simp only [decide_eq_false _h] | simp only [(_h : (_ : Bool) = _)] | simp only [decide_eq_true _h] | skip)
  rw [idxI, findIdx_anyG]; rfl
def hasB (tags set : List Str) : Bool := set.all fun x => inB x tags
/-- slices.IndexFunc[[]string,string]: 2 parameters, 0 captured -/
def s88 : SC := .seq (.reg [o1 4 (.mv (cI 0))])
  (.seq (.seq (.reg [o1 6 (.mv (.t 0)),
     o1 7 (.lenL (.t 6)),
     o1 8 (.mv (cI 0))])
    (.block 0 (.loop (.seq (.reg [o1 9 (.bin .lss (.t 8) (.t 7))])
       (.seq (.cond (.t 9) (.skip) (.exit 0))
        (.seq (.block 1 (.seq (.reg [o1 10 (.mv (.t 8)),
            o1 5 (.mv (.t 10))])
           (.seq (.reg [o1 11 (.mv (.t 1)),
             o1 12 (.mv (.t 0)),
             o1 13 (.mv (.t 5)),
             o1 14 (.iaddr 1 (.t 12) (.t 13)),
             o1 15 (.load none (.t 14)),
             o1 16 (.call (.t 11) [(.t 15)])])
            (.cond (.t 16) (.seq (.reg [o1 17 (.mv (.t 5)),
               o1 4 (.mv (.t 17))])
              (.ret)) (.skip)))))
         (.reg [o1 18 (.bin .add (.t 8) (cI 1)),
          o1 8 (.mv (.t 18))])))))))
   (.seq (.reg [o1 4 (.mv (cI (-1)))])
    (.ret)))
theorem s88_ok : lookF Try.prog 88 = some (s88, 19, [.tmp 4]) := by kernel_rfl
theorem strIdx_ok (l : List Str) (p : Str → Bool) (g : FuncId) (caps : List AV) (hc : ∀ c ∈ caps, AV.Still c) (hp : ∀ x, x ∈ l → Fn P g (valA x :: caps) (boolA (p x))) :
    Fn P 88 [sl l, .clo g caps] (intA (match l.findIdx? p with | some i => (i : Int) | none => -1)) := by
  have h1 := caps_seen hc
  have h2 := caps_bel hc
  (refine fn_look s88_ok (by simp) (by intro k; simp only [go_sem, Nat.reduceEqDiff, ↓reduceIte, reduceCtorEq, Nat.reduceAdd, Nat.reduceMul, Int.reduceToNat, List.reduceReplicate, Nat.reduceLeDiff, Nat.reduceLT, Int.reduceLT, Int.reduceLE, Int.reduceEq]) fun S hS => cwp_sound _ _ _ _ ?_; simp (disch := omega) only [s88, go_sem, Nat.reduceEqDiff, ↓reduceIte, reduceCtorEq, Nat.reduceAdd, Nat.reduceMul, Int.reduceToNat, List.reduceReplicate, Nat.reduceLeDiff, Nat.reduceLT, Int.reduceLT, Int.reduceLE, Int.reduceEq])
  repeat' (first | with_reducible refine inw ?_ | simp (disch := omega) only [go_sem, Nat.reduceEqDiff, ↓reduceIte, reduceCtorEq, Nat.reduceAdd, Nat.reduceMul, Int.reduceToNat, List.reduceReplicate, Nat.reduceLeDiff, Nat.reduceLT, Int.reduceLT, Int.reduceLE, Int.reduceEq, h1, h2] | with_reducible refine giv_intro fun _h => ?_ | with_reducible refine alt_intro ?_ fun _h => ?_ | with_reducible refine pickD_nil ?_ | (with_reducible refine brc (fun _h => ?_) fun _h => ?_) <;> first | (exfalso; omega) | simp only [decide_eq_false _h] | simp only [(_h : (_ : Bool) = _)] | simp only [decide_eq_true _h] | skip)
  (refine loopC hS [0, 1, 7] (by simp only [go_sem, Nat.reduceEqDiff, ↓reduceIte, reduceCtorEq, Nat.reduceAdd, Nat.reduceMul, Int.reduceToNat, List.reduceReplicate, Nat.reduceLeDiff, Nat.reduceLT, Int.reduceLT, Int.reduceLE, Int.reduceEq]; try rfl) (fun (i : Nat) => [(8, intA i)]) (fun (i : Nat) => []) (fun (i : Nat) => i ≤ l.length ∧ l.findIdx? p = ((l.drop i).findIdx? p).map (· + i)) (fun (i : Nat) => l.length - i) (0) ?h09 ?hn9 ?rd9; case hn9 => (intro s; first | rfl | (rcases s with ⟨_, _⟩; rfl) | (rcases s with ⟨_, _, _⟩; rfl) | (rcases s with ⟨_, _, _, _⟩; rfl) | (rcases s with ⟨_, _, _, _, _⟩; rfl)))
  · simp (disch := omega) only [go_sem, Nat.reduceEqDiff, ↓reduceIte, reduceCtorEq, Nat.reduceAdd, Nat.reduceMul, Int.reduceToNat, List.reduceReplicate, Nat.reduceLeDiff, Nat.reduceLT, Int.reduceLT, Int.reduceLE, Int.reduceEq]; simp
  rintro i ⟨hi, hI⟩
  replace hi : i ≤ l.length := hi
  replace hI : l.findIdx? p = ((l.drop i).findIdx? p).map (· + i) := hI
  repeat' (first | with_reducible refine inw ?_ | simp (disch := omega) only [go_sem, Nat.reduceEqDiff, ↓reduceIte, reduceCtorEq, Nat.reduceAdd, Nat.reduceMul, Int.reduceToNat, List.reduceReplicate, Nat.reduceLeDiff, Nat.reduceLT, Int.reduceLT, Int.reduceLE, Int.reduceEq, h1, h2] | (with_reducible apply call (hp _ (nth_mem (by assumption)))); (focus simp (disch := omega) only [go_sem, Nat.reduceEqDiff, ↓reduceIte, reduceCtorEq, Nat.reduceAdd, Nat.reduceMul, Int.reduceToNat, List.reduceReplicate, Nat.reduceLeDiff, Nat.reduceLT, Int.reduceLT, Int.reduceLE, Int.reduceEq, h1, h2] <;> rfl) | with_reducible refine giv_intro fun _h => ?_ | with_reducible refine alt_intro ?_ fun _h => ?_ | with_reducible refine pickD_nil ?_ | (with_reducible refine brc (fun _h => ?_) fun _h => ?_) <;> first | (exfalso; omega) | simp only [decide_eq_false _h] | simp only [(_h : (_ : Bool) = _)] | simp only [decide_eq_true _h] | skip)
  · rw [hI, nth_drop (by assumption)]
    simp_all [List.findIdx?_cons]
  · refine ⟨i + 1, ⟨by omega, by omega, ?_⟩, by omega⟩
    rw [hI, nth_drop (by assumption), List.findIdx?_cons]
    simp_all [Function.comp_def, Nat.add_comm, Nat.add_left_comm]
  · rw [hI, List.drop_eq_nil_of_le (by omega)]; rfl
/-- slices.ContainsFunc[[]string,string]: 2 parameters, 0 captured -/
def s71 : SC := .seq (.reg [o1 4 (.mv (cB false))])
  (.seq (.reg [o1 5 (.mv (.t 0)),
    o1 6 (.mv (.t 1)),
    o1 7 (.call (.f 88) [(.t 5), (.t 6)]),
    o1 8 (.bin .geq (.t 7) (cI 0)),
    o1 4 (.mv (.t 8))])
   (.ret))
theorem s71_ok : lookF Try.prog 71 = some (s71, 9, [.tmp 4]) := by kernel_rfl
theorem strAny_ok (l : List Str) (p : Str → Bool) (g : FuncId) (caps : List AV) (hc : ∀ c ∈ caps, AV.Still c) (hp : ∀ x, x ∈ l → Fn P g (valA x :: caps) (boolA (p x))) :
    Fn P 71 [sl l, .clo g caps] (boolA (l.any p)) := by
  have h1 := caps_seen hc
  have h2 := caps_bel hc
  (refine fn_look s71_ok (by simp) (by intro k; simp only [go_sem, Nat.reduceEqDiff, ↓reduceIte, reduceCtorEq, Nat.reduceAdd, Nat.reduceMul, Int.reduceToNat, List.reduceReplicate, Nat.reduceLeDiff, Nat.reduceLT, Int.reduceLT, Int.reduceLE, Int.reduceEq]) fun S hS => cwp_sound _ _ _ _ ?_; simp (disch := omega) only [s71, go_sem, Nat.reduceEqDiff, ↓reduceIte, reduceCtorEq, Nat.reduceAdd, Nat.reduceMul, Int.reduceToNat, List.reduceReplicate, Nat.reduceLeDiff, Nat.reduceLT, Int.reduceLT, Int.reduceLE, Int.reduceEq])
  repeat' (first | with_reducible refine inw ?_ | simp (disch := omega) only [go_sem, Nat.reduceEqDiff, ↓reduceIte, reduceCtorEq, Nat.reduceAdd, Nat.reduceMul, Int.reduceToNat, List.reduceReplicate, Nat.reduceLeDiff, Nat.reduceLT, Int.reduceLT, Int.reduceLE, Int.reduceEq, h1, h2] | (with_reducible apply call (strIdx_ok l p g caps hc hp)); (focus simp (disch := omega) only [go_sem, Nat.reduceEqDiff, ↓reduceIte, reduceCtorEq, Nat.reduceAdd, Nat.reduceMul, Int.reduceToNat, List.reduceReplicate, Nat.reduceLeDiff, Nat.reduceLT, Int.reduceLT, Int.reduceLE, Int.reduceEq, h1, h2] <;> rfl) | with_reducible refine giv_intro fun _h => ?_ | with_reducible refine alt_intro ?_ fun _h => ?_ | with_reducible refine pickD_nil ?_ | (with_reducible refine brc (fun _h => ?_) fun _h => ?_) <;> first | (exfalso; omega) | simp only [decide_eq_false _h] | simp only [(_h : (_ : Bool) = _)] | simp only [decide_eq_true _h] | skip)
  exact findIdx_anyG
/-- slices.IndexFunc[[]ablaut/api.Hung,ablaut/api.Hung]: 2 parameters, 0 captured -/
def s42 : SC := .seq (.reg [o1 4 (.mv (cI 0))])
  (.seq (.seq (.reg [o1 6 (.mv (.t 0)),
     o1 7 (.lenL (.t 6)),
     o1 8 (.mv (cI 0))])
    (.block 0 (.loop (.seq (.reg [o1 9 (.bin .lss (.t 8) (.t 7))])
       (.seq (.cond (.t 9) (.skip) (.exit 0))
        (.seq (.block 1 (.seq (.reg [o1 10 (.mv (.t 8)),
            o1 5 (.mv (.t 10))])
           (.seq (.reg [o1 11 (.mv (.t 1)),
             o1 12 (.mv (.t 0)),
             o1 13 (.mv (.t 5)),
             o1 14 (.iaddr 3 (.t 12) (.t 13)),
             o1 15 (.load (some 3) (.t 14)),
             o1 16 (.call (.t 11) [(.t 15)])])
            (.cond (.t 16) (.seq (.reg [o1 17 (.mv (.t 5)),
               o1 4 (.mv (.t 17))])
              (.ret)) (.skip)))))
         (.reg [o1 18 (.bin .add (.t 8) (cI 1)),
          o1 8 (.mv (.t 18))])))))))
   (.seq (.reg [o1 4 (.mv (cI (-1)))])
    (.ret)))
theorem s42_ok : lookF Try.prog 42 = some (s42, 19, [.tmp 4]) := by kernel_rfl
theorem hngIdx_ok (l : List Hung) (p : Hung → Bool) (g : FuncId) (caps : List AV) (hc : ∀ c ∈ caps, AV.Still c) (hp : ∀ x, x ∈ l → Fn P g (valA x :: caps) (boolA (p x))) :
    Fn P 42 [sl l, .clo g caps] (intA (match l.findIdx? p with | some i => (i : Int) | none => -1)) := by
  have h1 := caps_seen hc
  have h2 := caps_bel hc
  (refine fn_look s42_ok (by simp) (by intro k; simp only [go_sem, Nat.reduceEqDiff, ↓reduceIte, reduceCtorEq, Nat.reduceAdd, Nat.reduceMul, Int.reduceToNat, List.reduceReplicate, Nat.reduceLeDiff, Nat.reduceLT, Int.reduceLT, Int.reduceLE, Int.reduceEq]) fun S hS => cwp_sound _ _ _ _ ?_; simp (disch := omega) only [s42, go_sem, Nat.reduceEqDiff, ↓reduceIte, reduceCtorEq, Nat.reduceAdd, Nat.reduceMul, Int.reduceToNat, List.reduceReplicate, Nat.reduceLeDiff, Nat.reduceLT, Int.reduceLT, Int.reduceLE, Int.reduceEq])
  repeat' (first | with_reducible refine inw ?_ | simp (disch := omega) only [go_sem, Nat.reduceEqDiff, ↓reduceIte, reduceCtorEq, Nat.reduceAdd, Nat.reduceMul, Int.reduceToNat, List.reduceReplicate, Nat.reduceLeDiff, Nat.reduceLT, Int.reduceLT, Int.reduceLE, Int.reduceEq, h1, h2] | with_reducible refine giv_intro fun _h => ?_ | with_reducible refine alt_intro ?_ fun _h => ?_ | with_reducible refine pickD_nil ?_ | (with_reducible refine brc (fun _h => ?_) fun _h => ?_) <;> first | (exfalso; omega) | simp only [decide_eq_false _h] | simp only [(_h : (_ : Bool) = _)] | simp only [decide_eq_true _h] | skip)
  (refine loopC hS [0, 1, 7] (by simp only [go_sem, Nat.reduceEqDiff, ↓reduceIte, reduceCtorEq, Nat.reduceAdd, Nat.reduceMul, Int.reduceToNat, List.reduceReplicate, Nat.reduceLeDiff, Nat.reduceLT, Int.reduceLT, Int.reduceLE, Int.reduceEq]; try rfl) (fun (i : Nat) => [(8, intA i)]) (fun (i : Nat) => []) (fun (i : Nat) => i ≤ l.length ∧ l.findIdx? p = ((l.drop i).findIdx? p).map (· + i)) (fun (i : Nat) => l.length - i) (0) ?h010 ?hn10 ?rd10; case hn10 => (intro s; first | rfl | (rcases s with ⟨_, _⟩; rfl) | (rcases s with ⟨_, _, _⟩; rfl) | (rcases s with ⟨_, _, _, _⟩; rfl) | (rcases s with ⟨_, _, _, _, _⟩; rfl)))
  · simp (disch := omega) only [go_sem, Nat.reduceEqDiff, ↓reduceIte, reduceCtorEq, Nat.reduceAdd, Nat.reduceMul, Int.reduceToNat, List.reduceReplicate, Nat.reduceLeDiff, Nat.reduceLT, Int.reduceLT, Int.reduceLE, Int.reduceEq]; simp
  rintro i ⟨hi, hI⟩
  replace hi : i ≤ l.length := hi
  replace hI : l.findIdx? p = ((l.drop i).findIdx? p).map (· + i) := hI
  repeat' (first | with_reducible refine inw ?_ | simp (disch := omega) only [go_sem, Nat.reduceEqDiff, ↓reduceIte, reduceCtorEq, Nat.reduceAdd, Nat.reduceMul, Int.reduceToNat, List.reduceReplicate, Nat.reduceLeDiff, Nat.reduceLT, Int.reduceLT, Int.reduceLE, Int.reduceEq, h1, h2] | (with_reducible apply call (hp _ (nth_mem (by assumption)))); (focus simp (disch := omega) only [go_sem, Nat.reduceEqDiff, ↓reduceIte, reduceCtorEq, Nat.reduceAdd, Nat.reduceMul, Int.reduceToNat, List.reduceReplicate, Nat.reduceLeDiff, Nat.reduceLT, Int.reduceLT, Int.reduceLE, Int.reduceEq, h1, h2] <;> rfl) | with_reducible refine giv_intro fun _h => ?_ | with_reducible refine alt_intro ?_ fun _h => ?_ | with_reducible refine pickD_nil ?_ | (with_reducible refine brc (fun _h => ?_) fun _h => ?_) <;> first | (exfalso; omega) | simp only [decide_eq_false _h] | simp only [(_h : (_ : Bool) = _)] | simp only [decide_eq_true _h] | skip)
  · rw [hI, nth_drop (by assumption)]
    simp_all [List.findIdx?_cons]
  · refine ⟨i + 1, ⟨by omega, by omega, ?_⟩, by omega⟩
    rw [hI, nth_drop (by assumption), List.findIdx?_cons]
    simp_all [Function.comp_def, Nat.add_comm, Nat.add_left_comm]
  · rw [hI, List.drop_eq_nil_of_le (by omega)]; rfl
/-- slices.ContainsFunc[[]ablaut/api.Hung,ablaut/api.Hung]: 2 parameters, 0 captured -/
def s79 : SC := .seq (.reg [o1 4 (.mv (cB false))])
  (.seq (.reg [o1 5 (.mv (.t 0)),
    o1 6 (.mv (.t 1)),
    o1 7 (.call (.f 42) [(.t 5), (.t 6)]),
    o1 8 (.bin .geq (.t 7) (cI 0)),
    o1 4 (.mv (.t 8))])
   (.ret))
theorem s79_ok : lookF Try.prog 79 = some (s79, 9, [.tmp 4]) := by kernel_rfl
theorem hngAny_ok (l : List Hung) (p : Hung → Bool) (g : FuncId) (caps : List AV) (hc : ∀ c ∈ caps, AV.Still c) (hp : ∀ x, x ∈ l → Fn P g (valA x :: caps) (boolA (p x))) :
    Fn P 79 [sl l, .clo g caps] (boolA (l.any p)) := by
  have h1 := caps_seen hc
  have h2 := caps_bel hc
  (refine fn_look s79_ok (by simp) (by intro k; simp only [go_sem, Nat.reduceEqDiff, ↓reduceIte, reduceCtorEq, Nat.reduceAdd, Nat.reduceMul, Int.reduceToNat, List.reduceReplicate, Nat.reduceLeDiff, Nat.reduceLT, Int.reduceLT, Int.reduceLE, Int.reduceEq]) fun S hS => cwp_sound _ _ _ _ ?_; simp (disch := omega) only [s79, go_sem, Nat.reduceEqDiff, ↓reduceIte, reduceCtorEq, Nat.reduceAdd, Nat.reduceMul, Int.reduceToNat, List.reduceReplicate, Nat.reduceLeDiff, Nat.reduceLT, Int.reduceLT, Int.reduceLE, Int.reduceEq])
  repeat' (first | with_reducible refine inw ?_ | simp (disch := omega) only [go_sem, Nat.reduceEqDiff, ↓reduceIte, reduceCtorEq, Nat.reduceAdd, Nat.reduceMul, Int.reduceToNat, List.reduceReplicate, Nat.reduceLeDiff, Nat.reduceLT, Int.reduceLT, Int.reduceLE, Int.reduceEq, h1, h2] | (with_reducible apply call (hngIdx_ok l p g caps hc hp)); (focus simp (disch := omega) only [go_sem, Nat.reduceEqDiff, ↓reduceIte, reduceCtorEq, Nat.reduceAdd, Nat.reduceMul, Int.reduceToNat, List.reduceReplicate, Nat.reduceLeDiff, Nat.reduceLT, Int.reduceLT, Int.reduceLE, Int.reduceEq, h1, h2] <;> rfl) | with_reducible refine giv_intro fun _h => ?_ | with_reducible refine alt_intro ?_ fun _h => ?_ | with_reducible refine pickD_nil ?_ | (with_reducible refine brc (fun _h => ?_) fun _h => ?_) <;> first | (exfalso; omega) | simp only [decide_eq_false _h] | simp only [(_h : (_ : Bool) = _)] | simp only [decide_eq_true _h] | skip)
  exact findIdx_anyG
/-- slices.IndexFunc[[]ablaut/api.Hook,ablaut/api.Hook]: 2 parameters, 0 captured -/
def s87 : SC := .seq (.reg [o1 4 (.mv (cI 0))])
  (.seq (.seq (.reg [o1 6 (.mv (.t 0)),
     o1 7 (.lenL (.t 6)),
     o1 8 (.mv (cI 0))])
    (.block 0 (.loop (.seq (.reg [o1 9 (.bin .lss (.t 8) (.t 7))])
       (.seq (.cond (.t 9) (.skip) (.exit 0))
        (.seq (.block 1 (.seq (.reg [o1 10 (.mv (.t 8)),
            o1 5 (.mv (.t 10))])
           (.seq (.reg [o1 11 (.mv (.t 1)),
             o1 12 (.mv (.t 0)),
             o1 13 (.mv (.t 5)),
             o1 14 (.iaddr 6 (.t 12) (.t 13)),
             o1 15 (.load (some 6) (.t 14)),
             o1 16 (.call (.t 11) [(.t 15)])])
            (.cond (.t 16) (.seq (.reg [o1 17 (.mv (.t 5)),
               o1 4 (.mv (.t 17))])
              (.ret)) (.skip)))))
         (.reg [o1 18 (.bin .add (.t 8) (cI 1)),
          o1 8 (.mv (.t 18))])))))))
   (.seq (.reg [o1 4 (.mv (cI (-1)))])
    (.ret)))
theorem s87_ok : lookF Try.prog 87 = some (s87, 19, [.tmp 4]) := by kernel_rfl
theorem hokIdx_ok (l : List Hook) (p : Hook → Bool) (g : FuncId) (caps : List AV) (hc : ∀ c ∈ caps, AV.Still c) (hp : ∀ x, x ∈ l → Fn P g (valA x :: caps) (boolA (p x))) :
    Fn P 87 [sl l, .clo g caps] (intA (match l.findIdx? p with | some i => (i : Int) | none => -1)) := by
  have h1 := caps_seen hc
  have h2 := caps_bel hc
  (refine fn_look s87_ok (by simp) (by intro k; simp only [go_sem, Nat.reduceEqDiff, ↓reduceIte, reduceCtorEq, Nat.reduceAdd, Nat.reduceMul, Int.reduceToNat, List.reduceReplicate, Nat.reduceLeDiff, Nat.reduceLT, Int.reduceLT, Int.reduceLE, Int.reduceEq]) fun S hS => cwp_sound _ _ _ _ ?_; simp (disch := omega) only [s87, go_sem, Nat.reduceEqDiff, ↓reduceIte, reduceCtorEq, Nat.reduceAdd, Nat.reduceMul, Int.reduceToNat, List.reduceReplicate, Nat.reduceLeDiff, Nat.reduceLT, Int.reduceLT, Int.reduceLE, Int.reduceEq])
  repeat' (first | with_reducible refine inw ?_ | simp (disch := omega) only [go_sem, Nat.reduceEqDiff, ↓reduceIte, reduceCtorEq, Nat.reduceAdd, Nat.reduceMul, Int.reduceToNat, List.reduceReplicate, Nat.reduceLeDiff, Nat.reduceLT, Int.reduceLT, Int.reduceLE, Int.reduceEq, h1, h2] | with_reducible refine giv_intro fun _h => ?_ | with_reducible refine alt_intro ?_ fun _h => ?_ | with_reducible refine pickD_nil ?_ | (with_reducible refine brc (fun _h => ?_) fun _h => ?_) <;> first | (exfalso; omega) | simp only [decide_eq_false _h] | simp only [(_h : (_ : Bool) = _)] | simp only [decide_eq_true _h] | skip)
  (refine loopC hS [0, 1, 7] (by simp only [go_sem, Nat.reduceEqDiff, ↓reduceIte, reduceCtorEq, Nat.reduceAdd, Nat.reduceMul, Int.reduceToNat, List.reduceReplicate, Nat.reduceLeDiff, Nat.reduceLT, Int.reduceLT, Int.reduceLE, Int.reduceEq]; try rfl) (fun (i : Nat) => [(8, intA i)]) (fun (i : Nat) => []) (fun (i : Nat) => i ≤ l.length ∧ l.findIdx? p = ((l.drop i).findIdx? p).map (· + i)) (fun (i : Nat) => l.length - i) (0) ?h011 ?hn11 ?rd11; case hn11 => (intro s; first | rfl | (rcases s with ⟨_, _⟩; rfl) | (rcases s with ⟨_, _, _⟩; rfl) | (rcases s with ⟨_, _, _, _⟩; rfl) | (rcases s with ⟨_, _, _, _, _⟩; rfl)))
  · simp (disch := omega) only [go_sem, Nat.reduceEqDiff, ↓reduceIte, reduceCtorEq, Nat.reduceAdd, Nat.reduceMul, Int.reduceToNat, List.reduceReplicate, Nat.reduceLeDiff, Nat.reduceLT, Int.reduceLT, Int.reduceLE, Int.reduceEq]; simp
  rintro i ⟨hi, hI⟩
  replace hi : i ≤ l.length := hi
  replace hI : l.findIdx? p = ((l.drop i).findIdx? p).map (· + i) := hI
  repeat' (first | with_reducible refine inw ?_ | simp (disch := omega) only [go_sem, Nat.reduceEqDiff, ↓reduceIte, reduceCtorEq, Nat.reduceAdd, Nat.reduceMul, Int.reduceToNat, List.reduceReplicate, Nat.reduceLeDiff, Nat.reduceLT, Int.reduceLT, Int.reduceLE, Int.reduceEq, h1, h2] | (with_reducible apply call (hp _ (nth_mem (by assumption)))); (focus simp (disch := omega) only [go_sem, Nat.reduceEqDiff, ↓reduceIte, reduceCtorEq, Nat.reduceAdd, Nat.reduceMul, Int.reduceToNat, List.reduceReplicate, Nat.reduceLeDiff, Nat.reduceLT, Int.reduceLT, Int.reduceLE, Int.reduceEq, h1, h2] <;> rfl) | with_reducible refine giv_intro fun _h => ?_ | with_reducible refine alt_intro ?_ fun _h => ?_ | with_reducible refine pickD_nil ?_ | (with_reducible refine brc (fun _h => ?_) fun _h => ?_) <;> first | (exfalso; omega) | simp only [decide_eq_false _h] | simp only [(_h : (_ : Bool) = _)] | simp only [decide_eq_true _h] | skip)
  · rw [hI, nth_drop (by assumption)]
    simp_all [List.findIdx?_cons]
  · refine ⟨i + 1, ⟨by omega, by omega, ?_⟩, by omega⟩
    rw [hI, nth_drop (by assumption), List.findIdx?_cons]
    simp_all [Function.comp_def, Nat.add_comm, Nat.add_left_comm]
  · rw [hI, List.drop_eq_nil_of_le (by omega)]; rfl
/-- slices.ContainsFunc[[]ablaut/api.Hook,ablaut/api.Hook]: 2 parameters, 0 captured -/
def s66 : SC := .seq (.reg [o1 4 (.mv (cB false))])
  (.seq (.reg [o1 5 (.mv (.t 0)),
    o1 6 (.mv (.t 1)),
    o1 7 (.call (.f 87) [(.t 5), (.t 6)]),
    o1 8 (.bin .geq (.t 7) (cI 0)),
    o1 4 (.mv (.t 8))])
   (.ret))
theorem s66_ok : lookF Try.prog 66 = some (s66, 9, [.tmp 4]) := by kernel_rfl
theorem hokAny_ok (l : List Hook) (p : Hook → Bool) (g : FuncId) (caps : List AV) (hc : ∀ c ∈ caps, AV.Still c) (hp : ∀ x, x ∈ l → Fn P g (valA x :: caps) (boolA (p x))) :
    Fn P 66 [sl l, .clo g caps] (boolA (l.any p)) := by
  have h1 := caps_seen hc
  have h2 := caps_bel hc
  (refine fn_look s66_ok (by simp) (by intro k; simp only [go_sem, Nat.reduceEqDiff, ↓reduceIte, reduceCtorEq, Nat.reduceAdd, Nat.reduceMul, Int.reduceToNat, List.reduceReplicate, Nat.reduceLeDiff, Nat.reduceLT, Int.reduceLT, Int.reduceLE, Int.reduceEq]) fun S hS => cwp_sound _ _ _ _ ?_; simp (disch := omega) only [s66, go_sem, Nat.reduceEqDiff, ↓reduceIte, reduceCtorEq, Nat.reduceAdd, Nat.reduceMul, Int.reduceToNat, List.reduceReplicate, Nat.reduceLeDiff, Nat.reduceLT, Int.reduceLT, Int.reduceLE, Int.reduceEq])
  repeat' (first | with_reducible refine inw ?_ | simp (disch := omega) only [go_sem, Nat.reduceEqDiff, ↓reduceIte, reduceCtorEq, Nat.reduceAdd, Nat.reduceMul, Int.reduceToNat, List.reduceReplicate, Nat.reduceLeDiff, Nat.reduceLT, Int.reduceLT, Int.reduceLE, Int.reduceEq, h1, h2] | (with_reducible apply call (hokIdx_ok l p g caps hc hp)); (focus simp (disch := omega) only [go_sem, Nat.reduceEqDiff, ↓reduceIte, reduceCtorEq, Nat.reduceAdd, Nat.reduceMul, Int.reduceToNat, List.reduceReplicate, Nat.reduceLeDiff, Nat.reduceLT, Int.reduceLT, Int.reduceLE, Int.reduceEq, h1, h2] <;> rfl) | with_reducible refine giv_intro fun _h => ?_ | with_reducible refine alt_intro ?_ fun _h => ?_ | with_reducible refine pickD_nil ?_ | (with_reducible refine brc (fun _h => ?_) fun _h => ?_) <;> first | (exfalso; omega) | simp only [decide_eq_false _h] | simp only [(_h : (_ : Bool) = _)] | simp only [decide_eq_true _h] | skip)
  exact findIdx_anyG
theorem rop_still {cs : List AV} (h : ∀ c ∈ cs, AV.Still c) : AV.Still (.rop cs) := ⟨fun k => by simp only [AV.bel]; exact bels_iff.2 fun c hc => (h c hc).bel k, fun D S d => by rw [n_rop], rfl⟩
theorem valA_hung (h : Hung) : valA h = .agg [sl h.1, intA h.2.1, strA h.2.2] := by rw [valA_ne (by omega)]; rfl
/-- ablaut/depend.has$1: 1 parameters, 1 captured -/
def s72 : SC := .seq (.reg [o1 3 (.mv (cB false))])
  (.seq (.reg [o1 4 (.faddr 0 (.t 1)),
    o1 5 (.load none (.t 4)),
    o1 6 (.mv (.t 0)),
    o1 7 (.call (.f 73) [(.t 5), (.t 6)]),
    o1 8 (.un .not (.t 7)),
    o1 3 (.mv (.t 8))])
   (.ret))
theorem s72_ok : lookF Try.prog 72 = some (s72, 9, [.tmp 3]) := by kernel_rfl
/-- ablaut/depend.has: 2 parameters, 0 captured -/
def s39 : SC := .seq (.reg [o1 2 (.box 34 3 (.t 0)),
   o1 4 (.mv (cB false))])
  (.seq (.reg [o1 5 (.mv (.t 1)),
    o1 6 (.mkfunc 72 [(.t 2)]),
    o1 7 (.call (.f 71) [(.t 5), (.t 6)]),
    o1 8 (.un .not (.t 7)),
    o1 4 (.mv (.t 8))])
   (.ret))
theorem s39_ok : lookF Try.prog 39 = some (s39, 9, [.tmp 4]) := by kernel_rfl
theorem has_ok (h : Hung) (set : List Str) : Fn P 39 [.agg [sl h.1, intA h.2.1, strA h.2.2], sl set] (boolA (hasB h.1 set)) := by
  have d1 : ∀ x, Fn P 72 [strA x, .rop [sl h.1, intA h.2.1, strA h.2.2]] (boolA (!inB x h.1)) := fun x => by
    (refine fn_look s72_ok (by simp) (by intro k; simp only [go_sem, Nat.reduceEqDiff, ↓reduceIte, reduceCtorEq, Nat.reduceAdd, Nat.reduceMul, Int.reduceToNat, List.reduceReplicate, Nat.reduceLeDiff, Nat.reduceLT, Int.reduceLT, Int.reduceLE, Int.reduceEq]) fun S hS => cwp_sound _ _ _ _ ?_; simp (disch := omega) only [s72, go_sem, Nat.reduceEqDiff, ↓reduceIte, reduceCtorEq, Nat.reduceAdd, Nat.reduceMul, Int.reduceToNat, List.reduceReplicate, Nat.reduceLeDiff, Nat.reduceLT, Int.reduceLT, Int.reduceLE, Int.reduceEq])
    repeat' (first | with_reducible refine inw ?_ | simp (disch := omega) only [go_sem, Nat.reduceEqDiff, ↓reduceIte, reduceCtorEq, Nat.reduceAdd, Nat.reduceMul, Int.reduceToNat, List.reduceReplicate, Nat.reduceLeDiff, Nat.reduceLT, Int.reduceLT, Int.reduceLE, Int.reduceEq] | (with_reducible apply call (contains_ok h.1 x)); (focus simp (disch := omega) only [go_sem, Nat.reduceEqDiff, ↓reduceIte, reduceCtorEq, Nat.reduceAdd, Nat.reduceMul, Int.reduceToNat, List.reduceReplicate, Nat.reduceLeDiff, Nat.reduceLT, Int.reduceLT, Int.reduceLE, Int.reduceEq] <;> rfl) | with_reducible refine giv_intro fun _h => ?_ | with_reducible refine alt_intro ?_ fun _h => ?_ | with_reducible refine pickD_nil ?_ | (with_reducible refine brc (fun _h => ?_) fun _h => ?_) <;> first | (exfalso; omega) | simp only [decide_eq_false _h] | simp only [(_h : (_ : Bool) = _)] | simp only [decide_eq_true _h] | skip)
  have e : set.any (fun x => !inB x h.1) = !hasB h.1 set := by rw [hasB, List.all_eq_not_any_not, Bool.not_not]
  have d2 := strAny_ok set (fun x => !inB x h.1) 72 [.rop [sl h.1, intA h.2.1, strA h.2.2]] (by
    intro c hc
    rw [List.mem_singleton] at hc
    subst hc
    exact rop_still (Enc.still h)) (fun x _ => by rw [valA_s]; exact d1 x)
  rw [e] at d2
  (refine fn_look s39_ok (by simp) (by intro k; simp only [go_sem, Nat.reduceEqDiff, ↓reduceIte, reduceCtorEq, Nat.reduceAdd, Nat.reduceMul, Int.reduceToNat, List.reduceReplicate, Nat.reduceLeDiff, Nat.reduceLT, Int.reduceLT, Int.reduceLE, Int.reduceEq]) fun S hS => cwp_sound _ _ _ _ ?_; simp (disch := omega) only [s39, go_sem, Nat.reduceEqDiff, ↓reduceIte, reduceCtorEq, Nat.reduceAdd, Nat.reduceMul, Int.reduceToNat, List.reduceReplicate, Nat.reduceLeDiff, Nat.reduceLT, Int.reduceLT, Int.reduceLE, Int.reduceEq])
  repeat' (first | with_reducible refine inw ?_ | simp (disch := omega) only [go_sem, Nat.reduceEqDiff, ↓reduceIte, reduceCtorEq, Nat.reduceAdd, Nat.reduceMul, Int.reduceToNat, List.reduceReplicate, Nat.reduceLeDiff, Nat.reduceLT, Int.reduceLT, Int.reduceLE, Int.reduceEq] | (with_reducible apply call_lend (d2)); (focus simp (disch := omega) only [go_sem, Nat.reduceEqDiff, ↓reduceIte, reduceCtorEq, Nat.reduceAdd, Nat.reduceMul, Int.reduceToNat, List.reduceReplicate, Nat.reduceLeDiff, Nat.reduceLT, Int.reduceLT, Int.reduceLE, Int.reduceEq] <;> rfl); (focus rfl) | with_reducible refine giv_intro fun _h => ?_ | with_reducible refine alt_intro ?_ fun _h => ?_ | with_reducible refine pickD_nil ?_ | (with_reducible refine brc (fun _h => ?_) fun _h => ?_) <;> first | (exfalso; omega) | simp only [decide_eq_false _h] | simp only [(_h : (_ : Bool) = _)] | simp only [decide_eq_true _h] | skip)
  rw [Bool.not_not]
end Go.Proofs.Ytkedbkdbnmmkhaa.Ev

/- Levels and breaks of a word: both. -/
import Derived.Test.YtfihpbeihlpfcaaZFnOk
set_option linter.unusedVariables false
set_option linter.unusedSimpArgs false
namespace Go.Proofs.Ytfihpbeihlpfcaa.Ev
open Go Go.Proofs

/-! ### what a right book says -/
theorem ascP {ps : List Pat} (h : (List.range ps.length).all (patsI ps) = true) : Dist ps ∧ ∀ p ∈ ps, patB p = true := by
  have h1 : ∀ i, i < ps.length → patsI ps i = true := fun i hi => List.all_eq_true.1 h i (List.mem_range.2 hi)
  have h2 : ∀ i, i < ps.length → patB (nth ps i) = true := fun i hi => by
    have := h1 i hi; simp only [patsI, Bool.and_eq_true] at this; exact this.1
  have h3 : ∀ i, i + 1 < ps.length → orderL (nth ps i).1 (nth ps (i + 1)).1 < 0 := fun i hi => by
    have := h1 (i + 1) hi
    simp only [patsI, Bool.and_eq_true, Bool.or_eq_true, decide_eq_true_eq, Nat.add_sub_cancel] at this
    rcases this.2 with h | h
    · omega
    · exact h
  have h4 : ∀ d i, i + d + 1 < ps.length → orderL (nth ps i).1 (nth ps (i + d + 1)).1 < 0 := by
    intro d
    induction d with
    | zero => intro i hi; exact h3 i hi
    | succ d ih => intro i hi; exact orderL_trans (ih i (by omega)) (h3 (i + d + 1) (by omega))
  refine ⟨List.pairwise_iff_getElem.2 fun i j hi hj hij e => ?_, fun p hp => ?_⟩
  · have := h4 (j - i - 1) i (by omega)
    rw [show i + (j - i - 1) + 1 = j by omega, nth_eq hi, nth_eq hj, e] at this
    have := orderL_zero.2 (rfl : ps[j].1 = ps[j].1)
    omega
  · obtain ⟨i, hi, rfl⟩ := List.getElem_of_mem hp
    rw [← nth_eq hi]; exact h2 i hi
theorem patB_ok {p : Pat} (h : patB p = true) : PatOk p := by
  simp only [patB, Bool.and_eq_true, decide_eq_true_eq, Bool.not_eq_true'] at h
  obtain ⟨⟨⟨h1, h2⟩, h3⟩, _⟩ := h
  refine ⟨fun e => h1 (by rw [e]; rfl), h2, fun x hx => ?_⟩
  have := List.any_eq_false.1 h3 x hx
  simp only [decide_eq_true_eq] at this
  omega
/-- What the walks need of a right book. -/
theorem book_facts {h : Book} (hv : vErr h = 0) : Dist h.2.2.1 ∧ (∀ p ∈ h.2.2.1, PatOk p) ∧ (∀ p ∈ h.2.2.1, p.1.length ≤ 60 ∧ p.2.length ≤ 61) ∧ h.2.2.1.length ≤ 300 ∧ h.2.2.2.1.length ≤ 300 ∧ h.2.2.2.2.length ≤ 24 ∧ bookB h = true ∧ wordsErr (bookW h) = 0 := by
  unfold vErr at hv
  split at hv
  · cases hv
  rename_i h0
  split at hv
  · rename_i q; exact absurd hv q
  rename_i h1
  split at hv
  · rename_i hb
    have hW : wordsErr (bookW h) = 0 := by omega
    have hb2 := hb
    simp only [bookB, Bool.and_eq_true] at hb2
    obtain ⟨hd, hp⟩ := ascP hb2.1.1.2
    have hok : ∀ p ∈ h.2.2.1, PatOk p := fun p hm => patB_ok (hp p hm)
    refine ⟨hd, hok, fun p hm => ?_, by omega, by omega, by omega, hb, hW⟩
    have hl := wordErr_len (wordsErr_mem hW p.1 (by simp only [bookW, List.mem_append, List.mem_map]; exact .inl ⟨p, hm, rfl⟩))
    have := (hok p hm).2.1
    omega
  · cases hv
def lvT (h : Book) (w : List Str) : List Int := allR h.2.2.1 w h.2.2.1.length
/-- The levels of the places inside. -/
def insL (l : List Int) : List Int := if l.length < 3 then [] else (l.drop 1).take (l.length - 2)
/-- ablaut/hyph.inside: 1 parameters, 0 captured -/
def s38 : SC := .seq (.reg [o1 2 (.mv (.c (.slice none 0 0)))])
  (.seq (.seq (.reg [o1 3 (.mv (.t 0)),
     o1 4 (.lenL (.t 3)),
     o1 5 (.bin .lss (.t 4) (cI 3))])
    (.cond (.t 5) (.seq (.reg [o1 2 (.mv (.c (.slice none 0 0)))])
      (.ret)) (.skip)))
   (.seq (.reg [o1 6 (.mv (.t 0)),
     o1 7 (.mv (.t 0)),
     o1 8 (.lenL (.t 7)),
     o1 9 (.bin .sub (.t 8) (cI 1)),
     o1 10 (.sl 1 (.t 6) (some (cI 1)) (some (.t 9))),
     o1 2 (.mv (.t 10))])
    (.ret)))
theorem s38_ok : lookF Try.prog 38 = some (s38, 11, [.tmp 2]) := by kernel_rfl
theorem inside_ok (l : List Int) : Fn P 38 [sl l] (sl (insL l)) := by
  by_cases h3 : l.length < 3
  · rw [insL, if_pos h3]
    (refine fn_look s38_ok (by simp) (by intro k; simp only [go_sem, Nat.reduceEqDiff, ↓reduceIte, reduceCtorEq, Nat.reduceAdd, Nat.reduceMul, Int.reduceToNat, List.reduceReplicate, Nat.reduceLeDiff, Nat.reduceLT, Int.reduceLT, Int.reduceLE, Int.reduceEq]) fun S hS => cwp_sound _ _ _ _ ?_; simp (maxSteps := 900000) (disch := omega) only [s38, go_sem, Nat.reduceEqDiff, ↓reduceIte, reduceCtorEq, Nat.reduceAdd, Nat.reduceMul, Int.reduceToNat, List.reduceReplicate, Nat.reduceLeDiff, Nat.reduceLT, Int.reduceLT, Int.reduceLE, Int.reduceEq])
    repeat' (first | with_reducible refine inw ?_ | simp (maxSteps := 900000) (disch := omega) only [go_sem, Nat.reduceEqDiff, ↓reduceIte, reduceCtorEq, Nat.reduceAdd, Nat.reduceMul, Int.reduceToNat, List.reduceReplicate, Nat.reduceLeDiff, Nat.reduceLT, Int.reduceLT, Int.reduceLE, Int.reduceEq] | with_reducible refine pickB_f ?_ | with_reducible refine giv_intro fun _h => ?_ | with_reducible refine alt_intro ?_ fun _h => ?_ | with_reducible refine pickD_nil ?_ | (with_reducible refine brc (fun _h => ?_) fun _h => ?_) <;> first | (exfalso; omega) | simp only [decide_eq_false _h] | simp only [(_h : (_ : Bool) = _)] | simp only [decide_eq_true _h] | skip)
    all_goals rfl
  · have e1 : ((l.length : Int) - 1).toNat - 1 = l.length - 2 := by omega
    rw [insL, if_neg h3]
    (refine fn_look s38_ok (by simp) (by intro k; simp only [go_sem, Nat.reduceEqDiff, ↓reduceIte, reduceCtorEq, Nat.reduceAdd, Nat.reduceMul, Int.reduceToNat, List.reduceReplicate, Nat.reduceLeDiff, Nat.reduceLT, Int.reduceLT, Int.reduceLE, Int.reduceEq]) fun S hS => cwp_sound _ _ _ _ ?_; simp (maxSteps := 900000) (disch := omega) only [s38, go_sem, Nat.reduceEqDiff, ↓reduceIte, reduceCtorEq, Nat.reduceAdd, Nat.reduceMul, Int.reduceToNat, List.reduceReplicate, Nat.reduceLeDiff, Nat.reduceLT, Int.reduceLT, Int.reduceLE, Int.reduceEq])
    repeat' (first | with_reducible refine inw ?_ | simp (maxSteps := 900000) (disch := omega) only [go_sem, Nat.reduceEqDiff, ↓reduceIte, reduceCtorEq, Nat.reduceAdd, Nat.reduceMul, Int.reduceToNat, List.reduceReplicate, Nat.reduceLeDiff, Nat.reduceLT, Int.reduceLT, Int.reduceLE, Int.reduceEq, e1] | with_reducible refine pickB_f ?_ | with_reducible refine giv_intro fun _h => ?_ | with_reducible refine alt_intro ?_ fun _h => ?_ | with_reducible refine pickD_nil ?_ | (with_reducible refine brc (fun _h => ?_) fun _h => ?_) <;> first | (exfalso; omega) | simp only [decide_eq_false _h] | simp only [(_h : (_ : Bool) = _)] | simp only [decide_eq_true _h] | skip)
    all_goals skip
theorem tree_pats {h : Book} (hv : vErr h = 0) : FnR P 37 [sl h.2.2.1] fun r => NodeA (treeF h.2.2.1) r := by
  obtain ⟨hd, hok, hl, _⟩ := book_facts hv
  exact tree_ok h.2.2.1 (fun p hp => ⟨by have := hl p hp; omega, by have := hl p hp; omega, fun e => by have := (hok p hp).2.1; rw [e] at this; simp at this, (hok p hp).2.2⟩) fun i hi => treeF_new hd hi
theorem lvls_pats {h : Book} (hv : vErr h = 0) {w : List Str} (hw : w.length ≤ 60) {r : AV} (hr : NodeA (treeF h.2.2.1) r) : Fn P 39 [r, sl w] (sl (lvT h w)) := by
  obtain ⟨hd, hok, hl, _⟩ := book_facts hv
  rw [lvT, ← lvls_eq hd hok hw]
  exact levels1_ok _ r w hr hw fun π lv h => by
    rcases treeF_val _ _ _ h with e | ⟨p, hp, e1, e2⟩
    · rw [e]; simp
    · rw [← e2, ← e1, (hok p hp).2.1]; exact Nat.le_refl _
theorem askE_zero {h : Book} {w : List Str} (e : askE h w = 0) : vErr h = 0 ∧ wordErr w = 0 := by
  unfold askE at e
  split at e
  · rename_i q; exact absurd e q
  · exact ⟨by omega, e⟩
def lvsR (h : Book) (w : List Str) : List Int × Int := if askE h w ≠ 0 then ([], askE h w) else (insL (lvT h w), 0)
abbrev liA (r : List Int × Int) : AV := .tup [sl r.1, intA r.2]
/-- ablaut/hyph.Levels: 2 parameters, 0 captured -/
def s16 : SC := .seq (.reg [o1 2 (.box 37 5 (.t 0)),
   o1 4 (.mv (.c (.slice none 0 0))),
   o1 5 (.mv (cI 0))])
  (.seq (.seq (.reg [o1 7 (.load (some 5) (.t 2)),
     o1 8 (.mv (.t 1)),
     o1 9 (.call (.f 35) [(.t 7), (.t 8)]),
     o1 6 (.mv (.t 9))])
    (.seq (.reg [o1 10 (.mv (.t 6)),
      o1 11 (.bin .neq (.t 10) (cI 0))])
     (.cond (.t 11) (.seq (.reg [o1 12 (.mv (.t 6)),
        o1 4 (.mv (.c (.slice none 0 0))),
        o1 5 (.mv (.t 12))])
       (.ret)) (.skip))))
   (.seq (.reg [o1 13 (.faddr 2 (.t 2)),
     o1 14 (.load none (.t 13)),
     o1 15 (.call (.f 37) [(.t 14)]),
     o1 16 (.mv (.t 1)),
     o1 17 (.call (.f 39) [(.t 15), (.t 16)]),
     o1 18 (.call (.f 38) [(.t 17)]),
     o1 4 (.mv (.t 18)),
     o1 5 (.mv (cI 0))])
    (.ret)))
theorem s16_ok : lookF Try.prog 16 = some (s16, 19, [.tmp 4, .tmp 5]) := by kernel_rfl
theorem hLevels_ok (h : Book) (w : List Str) : Fn P 16 [bkA h, sl w] (liA (lvsR h w)) := by
  have c1 := both_ok h w
  by_cases he : askE h w ≠ 0
  · rw [lvsR, if_pos he]
    (refine fn_look s16_ok (by simp) (by intro k; simp only [go_sem, Nat.reduceEqDiff, ↓reduceIte, reduceCtorEq, Nat.reduceAdd, Nat.reduceMul, Int.reduceToNat, List.reduceReplicate, Nat.reduceLeDiff, Nat.reduceLT, Int.reduceLT, Int.reduceLE, Int.reduceEq]) fun S hS => cwp_sound _ _ _ _ ?_; simp (maxSteps := 900000) (disch := omega) only [s16, go_sem, Nat.reduceEqDiff, ↓reduceIte, reduceCtorEq, Nat.reduceAdd, Nat.reduceMul, Int.reduceToNat, List.reduceReplicate, Nat.reduceLeDiff, Nat.reduceLT, Int.reduceLT, Int.reduceLE, Int.reduceEq])
    repeat' (first | with_reducible refine inw ?_ | simp (maxSteps := 900000) (disch := omega) only [go_sem, Nat.reduceEqDiff, ↓reduceIte, reduceCtorEq, Nat.reduceAdd, Nat.reduceMul, Int.reduceToNat, List.reduceReplicate, Nat.reduceLeDiff, Nat.reduceLT, Int.reduceLT, Int.reduceLE, Int.reduceEq] | (with_reducible apply call (c1)); (focus simp (maxSteps := 900000) (disch := omega) only [go_sem, Nat.reduceEqDiff, ↓reduceIte, reduceCtorEq, Nat.reduceAdd, Nat.reduceMul, Int.reduceToNat, List.reduceReplicate, Nat.reduceLeDiff, Nat.reduceLT, Int.reduceLT, Int.reduceLE, Int.reduceEq] <;> rfl) | with_reducible refine pickB_f ?_ | with_reducible refine giv_intro fun _h => ?_ | with_reducible refine alt_intro ?_ fun _h => ?_ | with_reducible refine pickD_nil ?_ | (with_reducible refine brc (fun _h => ?_) fun _h => ?_) <;> first | (exfalso; omega) | simp only [decide_eq_false _h] | simp only [(_h : (_ : Bool) = _)] | simp only [decide_eq_true _h] | skip)
    all_goals rfl
  have he0 : askE h w = 0 := by omega
  obtain ⟨hv, hw⟩ := askE_zero he0
  have hwl := wordErr_len hw
  have c2 := tree_pats hv
  have c4 := inside_ok (lvT h w)
  rw [lvsR, if_neg he]
  rw [he0] at c1
  (refine fn_look s16_ok (by simp) (by intro k; simp only [go_sem, Nat.reduceEqDiff, ↓reduceIte, reduceCtorEq, Nat.reduceAdd, Nat.reduceMul, Int.reduceToNat, List.reduceReplicate, Nat.reduceLeDiff, Nat.reduceLT, Int.reduceLT, Int.reduceLE, Int.reduceEq]) fun S hS => cwp_sound _ _ _ _ ?_; simp (maxSteps := 900000) (disch := omega) only [s16, go_sem, Nat.reduceEqDiff, ↓reduceIte, reduceCtorEq, Nat.reduceAdd, Nat.reduceMul, Int.reduceToNat, List.reduceReplicate, Nat.reduceLeDiff, Nat.reduceLT, Int.reduceLT, Int.reduceLE, Int.reduceEq])
  repeat' (first | with_reducible refine inw ?_ | simp (maxSteps := 900000) (disch := omega) only [go_sem, Nat.reduceEqDiff, ↓reduceIte, reduceCtorEq, Nat.reduceAdd, Nat.reduceMul, Int.reduceToNat, List.reduceReplicate, Nat.reduceLeDiff, Nat.reduceLT, Int.reduceLT, Int.reduceLE, Int.reduceEq] | (with_reducible apply call (c1)); (focus simp (maxSteps := 900000) (disch := omega) only [go_sem, Nat.reduceEqDiff, ↓reduceIte, reduceCtorEq, Nat.reduceAdd, Nat.reduceMul, Int.reduceToNat, List.reduceReplicate, Nat.reduceLeDiff, Nat.reduceLT, Int.reduceLT, Int.reduceLE, Int.reduceEq] <;> rfl) | (with_reducible apply callR (c2)); (focus simp (maxSteps := 900000) (disch := omega) only [go_sem, Nat.reduceEqDiff, ↓reduceIte, reduceCtorEq, Nat.reduceAdd, Nat.reduceMul, Int.reduceToNat, List.reduceReplicate, Nat.reduceLeDiff, Nat.reduceLT, Int.reduceLT, Int.reduceLE, Int.reduceEq] <;> rfl) | with_reducible refine pickB_f ?_ | with_reducible refine giv_intro fun _h => ?_ | with_reducible refine alt_intro ?_ fun _h => ?_ | with_reducible refine pickD_nil ?_ | (with_reducible refine brc (fun _h => ?_) fun _h => ?_) <;> first | (exfalso; omega) | simp only [decide_eq_false _h] | simp only [(_h : (_ : Bool) = _)] | simp only [decide_eq_true _h] | skip)
  rintro r hr
  have c3 := lvls_pats hv hwl hr
  obtain ⟨cs, rfl⟩ := hr.rop
  repeat' (first | with_reducible refine inw ?_ | simp (maxSteps := 900000) (disch := omega) only [go_sem, Nat.reduceEqDiff, ↓reduceIte, reduceCtorEq, Nat.reduceAdd, Nat.reduceMul, Int.reduceToNat, List.reduceReplicate, Nat.reduceLeDiff, Nat.reduceLT, Int.reduceLT, Int.reduceLE, Int.reduceEq] | (with_reducible apply call (c3)); (focus simp (maxSteps := 900000) (disch := omega) only [go_sem, Nat.reduceEqDiff, ↓reduceIte, reduceCtorEq, Nat.reduceAdd, Nat.reduceMul, Int.reduceToNat, List.reduceReplicate, Nat.reduceLeDiff, Nat.reduceLT, Int.reduceLT, Int.reduceLE, Int.reduceEq] <;> rfl) | (with_reducible apply call (c4)); (focus simp (maxSteps := 900000) (disch := omega) only [go_sem, Nat.reduceEqDiff, ↓reduceIte, reduceCtorEq, Nat.reduceAdd, Nat.reduceMul, Int.reduceToNat, List.reduceReplicate, Nat.reduceLeDiff, Nat.reduceLT, Int.reduceLT, Int.reduceLE, Int.reduceEq] <;> rfl) | with_reducible refine pickB_f ?_ | with_reducible refine giv_intro fun _h => ?_ | with_reducible refine alt_intro ?_ fun _h => ?_ | with_reducible refine pickD_nil ?_ | (with_reducible refine brc (fun _h => ?_) fun _h => ?_) <;> first | (exfalso; omega) | simp only [decide_eq_false _h] | simp only [(_h : (_ : Bool) = _)] | simp only [decide_eq_true _h] | skip)
  all_goals rfl
/-- ablaut/ablautref24.Levels: 2 parameters, 0 captured -/
def s17 : SC := .seq (.reg [o1 2 (.box 37 5 (.t 0)),
   o1 4 (.mv (.c (.slice none 0 0))),
   o1 5 (.mv (cI 0))])
  (.seq (.seq (.reg [o1 8 (.load (some 5) (.t 2)),
     o1 9 (.mv (.t 1)),
     o1 10 (.call (.f 40) [(.t 8), (.t 9)]),
     o1 6 (.mv (.t 10))])
    (.seq (.reg [o1 11 (.mv (.t 6)),
      o1 12 (.bin .neq (.t 11) (cI 0))])
     (.cond (.t 12) (.seq (.reg [o1 13 (.mv (.t 6)),
        o1 4 (.mv (.c (.slice none 0 0))),
        o1 5 (.mv (.t 13))])
       (.ret)) (.skip))))
   (.seq (.reg [o1 14 (.faddr 2 (.t 2)),
     o1 15 (.load none (.t 14)),
     o1 16 (.mv (.t 1)),
     o1 17 (.call (.f 41) [(.t 15), (.t 16)]),
     o1 7 (.mv (.t 17))])
    (.seq (.seq (.reg [o1 18 (.mv (.t 1)),
       o1 19 (.lenL (.t 18)),
       o1 20 (.bin .lss (.t 19) (cI 2))])
      (.cond (.t 20) (.seq (.reg [o1 4 (.mv (.c (.slice none 0 0))),
         o1 5 (.mv (cI 0))])
        (.ret)) (.skip)))
     (.seq (.reg [o1 21 (.mv (.t 7)),
       o1 22 (.mv (.t 1)),
       o1 23 (.lenL (.t 22)),
       o1 24 (.mv (.t 1)),
       o1 25 (.lenL (.t 24)),
       o1 26 (.sl3 1 (.t 21) (cI 1) (.t 23) (.t 25)),
       o1 4 (.mv (.t 26)),
       o1 5 (.mv (cI 0))])
      (.ret)))))
theorem s17_ok : lookF Try.prog 17 = some (s17, 27, [.tmp 4, .tmp 5]) := by kernel_rfl
theorem rLevels_fn (h : Book) (w : List Str) : Fn P 17 [bkA h, sl w] (liA (lvsR h w)) := by
  have c1 := asked_ok h w
  by_cases he : askE h w ≠ 0
  · rw [lvsR, if_pos he]
    (refine fn_look s17_ok (by simp) (by intro k; simp only [go_sem, Nat.reduceEqDiff, ↓reduceIte, reduceCtorEq, Nat.reduceAdd, Nat.reduceMul, Int.reduceToNat, List.reduceReplicate, Nat.reduceLeDiff, Nat.reduceLT, Int.reduceLT, Int.reduceLE, Int.reduceEq]) fun S hS => cwp_sound _ _ _ _ ?_; simp (maxSteps := 900000) (disch := omega) only [s17, go_sem, Nat.reduceEqDiff, ↓reduceIte, reduceCtorEq, Nat.reduceAdd, Nat.reduceMul, Int.reduceToNat, List.reduceReplicate, Nat.reduceLeDiff, Nat.reduceLT, Int.reduceLT, Int.reduceLE, Int.reduceEq])
    repeat' (first | with_reducible refine inw ?_ | simp (maxSteps := 900000) (disch := omega) only [go_sem, Nat.reduceEqDiff, ↓reduceIte, reduceCtorEq, Nat.reduceAdd, Nat.reduceMul, Int.reduceToNat, List.reduceReplicate, Nat.reduceLeDiff, Nat.reduceLT, Int.reduceLT, Int.reduceLE, Int.reduceEq] | (with_reducible apply call (c1)); (focus simp (maxSteps := 900000) (disch := omega) only [go_sem, Nat.reduceEqDiff, ↓reduceIte, reduceCtorEq, Nat.reduceAdd, Nat.reduceMul, Int.reduceToNat, List.reduceReplicate, Nat.reduceLeDiff, Nat.reduceLT, Int.reduceLT, Int.reduceLE, Int.reduceEq] <;> rfl) | with_reducible refine pickB_f ?_ | with_reducible refine giv_intro fun _h => ?_ | with_reducible refine alt_intro ?_ fun _h => ?_ | with_reducible refine pickD_nil ?_ | (with_reducible refine brc (fun _h => ?_) fun _h => ?_) <;> first | (exfalso; omega) | simp only [decide_eq_false _h] | simp only [(_h : (_ : Bool) = _)] | simp only [decide_eq_true _h] | skip)
    all_goals rfl
  have he0 : askE h w = 0 := by omega
  obtain ⟨hv, hw⟩ := askE_zero he0
  have hwl := wordErr_len hw
  have c2 : Fn P 41 [sl h.2.2.1, sl w] (sl (lvT h w)) := rLevels_ok h.2.2.1 w hwl (book_facts hv).2.2.1
  have hll : (lvT h w).length = w.length + 1 := allR_len _ _ _
  rw [lvsR, if_neg he]
  rw [he0] at c1
  by_cases h2 : w.length < 2
  · rw [insL, if_pos (by omega)]
    (refine fn_look s17_ok (by simp) (by intro k; simp only [go_sem, Nat.reduceEqDiff, ↓reduceIte, reduceCtorEq, Nat.reduceAdd, Nat.reduceMul, Int.reduceToNat, List.reduceReplicate, Nat.reduceLeDiff, Nat.reduceLT, Int.reduceLT, Int.reduceLE, Int.reduceEq]) fun S hS => cwp_sound _ _ _ _ ?_; simp (maxSteps := 900000) (disch := omega) only [s17, go_sem, Nat.reduceEqDiff, ↓reduceIte, reduceCtorEq, Nat.reduceAdd, Nat.reduceMul, Int.reduceToNat, List.reduceReplicate, Nat.reduceLeDiff, Nat.reduceLT, Int.reduceLT, Int.reduceLE, Int.reduceEq])
    repeat' (first | with_reducible refine inw ?_ | simp (maxSteps := 900000) (disch := omega) only [go_sem, Nat.reduceEqDiff, ↓reduceIte, reduceCtorEq, Nat.reduceAdd, Nat.reduceMul, Int.reduceToNat, List.reduceReplicate, Nat.reduceLeDiff, Nat.reduceLT, Int.reduceLT, Int.reduceLE, Int.reduceEq] | (with_reducible apply call (c1)); (focus simp (maxSteps := 900000) (disch := omega) only [go_sem, Nat.reduceEqDiff, ↓reduceIte, reduceCtorEq, Nat.reduceAdd, Nat.reduceMul, Int.reduceToNat, List.reduceReplicate, Nat.reduceLeDiff, Nat.reduceLT, Int.reduceLT, Int.reduceLE, Int.reduceEq] <;> rfl) | (with_reducible apply call (c2)); (focus simp (maxSteps := 900000) (disch := omega) only [go_sem, Nat.reduceEqDiff, ↓reduceIte, reduceCtorEq, Nat.reduceAdd, Nat.reduceMul, Int.reduceToNat, List.reduceReplicate, Nat.reduceLeDiff, Nat.reduceLT, Int.reduceLT, Int.reduceLE, Int.reduceEq] <;> rfl) | with_reducible refine pickB_f ?_ | with_reducible refine giv_intro fun _h => ?_ | with_reducible refine alt_intro ?_ fun _h => ?_ | with_reducible refine pickD_nil ?_ | (with_reducible refine brc (fun _h => ?_) fun _h => ?_) <;> first | (exfalso; omega) | simp only [decide_eq_false _h] | simp only [(_h : (_ : Bool) = _)] | simp only [decide_eq_true _h] | skip)
    all_goals rfl
  · rw [insL, if_neg (by omega), hll]
    have e1 : w.length + 1 - 2 = w.length - 1 := by omega
    rw [e1]
    generalize lvT h w = l at *
    (refine fn_look s17_ok (by simp) (by intro k; simp only [go_sem, Nat.reduceEqDiff, ↓reduceIte, reduceCtorEq, Nat.reduceAdd, Nat.reduceMul, Int.reduceToNat, List.reduceReplicate, Nat.reduceLeDiff, Nat.reduceLT, Int.reduceLT, Int.reduceLE, Int.reduceEq]) fun S hS => cwp_sound _ _ _ _ ?_; simp (maxSteps := 900000) (disch := omega) only [s17, go_sem, Nat.reduceEqDiff, ↓reduceIte, reduceCtorEq, Nat.reduceAdd, Nat.reduceMul, Int.reduceToNat, List.reduceReplicate, Nat.reduceLeDiff, Nat.reduceLT, Int.reduceLT, Int.reduceLE, Int.reduceEq])
    repeat' (first | with_reducible refine inw ?_ | simp (maxSteps := 900000) (disch := omega) only [go_sem, Nat.reduceEqDiff, ↓reduceIte, reduceCtorEq, Nat.reduceAdd, Nat.reduceMul, Int.reduceToNat, List.reduceReplicate, Nat.reduceLeDiff, Nat.reduceLT, Int.reduceLT, Int.reduceLE, Int.reduceEq] | (with_reducible apply call (c1)); (focus simp (maxSteps := 900000) (disch := omega) only [go_sem, Nat.reduceEqDiff, ↓reduceIte, reduceCtorEq, Nat.reduceAdd, Nat.reduceMul, Int.reduceToNat, List.reduceReplicate, Nat.reduceLeDiff, Nat.reduceLT, Int.reduceLT, Int.reduceLE, Int.reduceEq] <;> rfl) | (with_reducible apply call (c2)); (focus simp (maxSteps := 900000) (disch := omega) only [go_sem, Nat.reduceEqDiff, ↓reduceIte, reduceCtorEq, Nat.reduceAdd, Nat.reduceMul, Int.reduceToNat, List.reduceReplicate, Nat.reduceLeDiff, Nat.reduceLT, Int.reduceLT, Int.reduceLE, Int.reduceEq] <;> rfl) | with_reducible refine pickB_f ?_ | with_reducible refine giv_intro fun _h => ?_ | with_reducible refine alt_intro ?_ fun _h => ?_ | with_reducible refine pickD_nil ?_ | (with_reducible refine brc (fun _h => ?_) fun _h => ?_) <;> first | (exfalso; omega) | simp only [decide_eq_false _h] | simp only [(_h : (_ : Bool) = _)] | simp only [decide_eq_true _h] | skip)
    have hX : (List.take (w.length - 1) (List.drop 1 l)).length = w.length - 1 := by rw [List.length_take, List.length_drop]; omega
    simp only [sl, hX]
end Go.Proofs.Ytfihpbeihlpfcaa.Ev

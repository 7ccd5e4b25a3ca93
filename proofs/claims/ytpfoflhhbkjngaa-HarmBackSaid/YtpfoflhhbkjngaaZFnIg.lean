/- The word that harmony makes. -/
import Derived.Test.YtpfoflhhbkjngaaZFnIf
set_option linter.unusedVariables false
set_option linter.unusedSimpArgs false
namespace Go.Proofs.Ytpfoflhhbkjngaa.Ev
open Go Go.Proofs

theorem snd_cls {s : List Sound} (h : sndErr s = 0) (x : Str) : 0 ≤ clsR s x ∧ clsR s x ≤ 5 := by
  have hb : ∀ j, j < s.length → badS s j = false := by
    unfold sndErr at h
    split at h
    · cases h
    · split at h
      · cases h
      · rename_i h2
        intro j hj
        rw [← Bool.not_eq_true]; intro h3
        exact h2 (List.any_eq_true.2 ⟨j, List.mem_range.2 hj, h3⟩)
  unfold clsR rowR
  cases hf : s.find? (fun r => decide (r.1 = x)) with
  | none => exact ⟨Int.le_refl _, by show (0 : Int) ≤ 5; decide⟩
  | some r =>
    obtain ⟨j, hj, rfl⟩ := List.getElem_of_mem (List.mem_of_find?_eq_some hf)
    have := hb j hj
    simp only [badS, Bool.or_eq_false_iff, decide_eq_false_iff_not, nth_eq hj] at this
    show 0 ≤ s[j].2.2.2 ∧ s[j].2.2.2 ≤ 5
    omega
def clsM (m : List (Str × Sound)) (x : Str) : Int := ((getM m x).getD (⟨#[]⟩, 0, false, 0)).2.2.2
theorem clsM_of {l : List Sound} (h : sndErr l = 0) : clsM (ofM l) = clsR l := by
  funext x
  rw [clsM, ofM, getM_of l [] (snd_distinct h), clsR, rowR]
  cases l.find? fun r => decide (r.1 = x) <;> rfl
theorem clsT_le {s : List Sound} (hcl : ∀ x, clsR s x ≤ 5) : ∀ (v : List Str) (c : Nat), c ≤ 5 → clsT s v c ≤ 5
  | [], c, h => h
  | y :: v, c, h => clsT_le hcl v _ (by unfold aftT; have := hcl y; split <;> omega)
theorem hrE_zero {s : List Sound} {l : List Arch} {w : List Str} (h : hrE s l w = 0) : sndErr s = 0 ∧ archErr l = 0 ∧ wordsErr [w] = 0 := by
  unfold hrE at h
  simp only [firstE] at h
  split at h
  · rename_i h1; exact absurd h h1
  split at h
  · rename_i h1; exact absurd h h1
  split at h
  · rename_i h1; exact absurd h h1
  · exact ⟨by omega, by omega, by omega⟩
/-- ablaut/ablautref13.sounds: 3 parameters, 0 captured -/
def s98 : SC := .seq (.reg [o1 3 (.box 37 1 (.t 0)),
   o1 6 (.mv (cI 0))])
  (.seq (.seq (.reg [o1 9 (.load (some 1) (.t 3)),
     o1 10 (.call (.f 52) [(.t 9)]),
     o1 7 (.mv (.t 10))])
    (.seq (.reg [o1 11 (.mv (.t 7)),
      o1 12 (.bin .neq (.t 11) (cI 0))])
     (.cond (.t 12) (.seq (.reg [o1 13 (.mv (.t 7)),
        o1 6 (.mv (.t 13))])
       (.ret)) (.skip))))
   (.seq (.seq (.reg [o1 14 (.mv (.t 1)),
      o1 15 (.call (.f 133) [(.t 14)]),
      o1 8 (.mv (.t 15))])
     (.seq (.reg [o1 16 (.mv (.t 8)),
       o1 17 (.bin .neq (.t 16) (cI 0))])
      (.cond (.t 17) (.seq (.reg [o1 18 (.mv (.t 8)),
         o1 6 (.mv (.t 18))])
        (.ret)) (.skip))))
    (.seq (.reg [o1 19 (.mv (.t 2)),
      o1 20 (.call (.f 83) [(.t 19)]),
      o1 6 (.mv (.t 20))])
     (.ret))))
theorem s98_ok : lookF Try.prog 98 = some (s98, 21, [.tmp 6]) := by kernel_rfl
theorem rSounds_ok (s : List Sound) (l : List Arch) (w : List Str) (hsz : ∀ a ∈ l, a.1.size ≤ 4611686018427387904) : Fn P 98 [sndA s, sl l, sl w] (intA (hrE s l w)) := by
  have c1 := rValidate_ok s
  have c2 := rArchs_ok l hsz
  have c3 := refValidateWord_ok w
  have e : hrE s l w = if sndErr s ≠ 0 then sndErr s else if archErr l ≠ 0 then archErr l else wordErr w := by
    simp only [hrE, firstE, wordsErr]
    split
    · rfl
    split
    · rfl
    · split
      · rfl
      · rename_i h; rw [if_neg (by decide)]; omega
  rw [e]
  (refine fn_look s98_ok (by simp) (by intro k; simp only [go_sem, Nat.reduceEqDiff, ↓reduceIte, reduceCtorEq, Nat.reduceAdd, Nat.reduceMul, Int.reduceToNat, List.reduceReplicate, Nat.reduceLeDiff, Nat.reduceLT, Int.reduceLT, Int.reduceLE, Int.reduceEq]) fun S hS => cwp_sound _ _ _ _ ?_; simp (maxSteps := 900000) (disch := omega) only [s98, go_sem, Nat.reduceEqDiff, ↓reduceIte, reduceCtorEq, Nat.reduceAdd, Nat.reduceMul, Int.reduceToNat, List.reduceReplicate, Nat.reduceLeDiff, Nat.reduceLT, Int.reduceLT, Int.reduceLE, Int.reduceEq])
  repeat' (first | with_reducible refine inw ?_ | simp (maxSteps := 900000) (disch := omega) only [go_sem, Nat.reduceEqDiff, ↓reduceIte, reduceCtorEq, Nat.reduceAdd, Nat.reduceMul, Int.reduceToNat, List.reduceReplicate, Nat.reduceLeDiff, Nat.reduceLT, Int.reduceLT, Int.reduceLE, Int.reduceEq] | (with_reducible apply call (c1)); (focus simp (maxSteps := 900000) (disch := omega) only [go_sem, Nat.reduceEqDiff, ↓reduceIte, reduceCtorEq, Nat.reduceAdd, Nat.reduceMul, Int.reduceToNat, List.reduceReplicate, Nat.reduceLeDiff, Nat.reduceLT, Int.reduceLT, Int.reduceLE, Int.reduceEq] <;> rfl) | (with_reducible apply call (c2)); (focus simp (maxSteps := 900000) (disch := omega) only [go_sem, Nat.reduceEqDiff, ↓reduceIte, reduceCtorEq, Nat.reduceAdd, Nat.reduceMul, Int.reduceToNat, List.reduceReplicate, Nat.reduceLeDiff, Nat.reduceLT, Int.reduceLT, Int.reduceLE, Int.reduceEq] <;> rfl) | (with_reducible apply call (c3)); (focus simp (maxSteps := 900000) (disch := omega) only [go_sem, Nat.reduceEqDiff, ↓reduceIte, reduceCtorEq, Nat.reduceAdd, Nat.reduceMul, Int.reduceToNat, List.reduceReplicate, Nat.reduceLeDiff, Nat.reduceLT, Int.reduceLT, Int.reduceLE, Int.reduceEq] <;> rfl) | with_reducible refine pickB_f ?_ | with_reducible refine giv_intro fun _h => ?_ | with_reducible refine alt_intro ?_ fun _h => ?_ | with_reducible refine pickD_nil ?_ | (with_reducible refine brc (fun _h => ?_) fun _h => ?_) <;> first | (exfalso; omega) | simp only [decide_eq_false _h] | simp only [(_h : (_ : Bool) = _)] | simp only [decide_eq_true _h] | skip)
  all_goals (first | (rw [if_pos (by assumption)]; done) | (rw [if_neg (by omega), if_pos (by assumption)]; done) | (rw [if_neg (by omega), if_neg (by omega)]; done))
abbrev hrA (r : List Str × Int) : AV := .tup [sl r.1, intA r.2]
/-- ablaut/ablautref13.Harmony: 3 parameters, 0 captured -/
def s48 : SC := .seq (.reg [o1 3 (.box 37 1 (.t 0)),
   o1 6 (.mv (.c (.slice none 0 0))),
   o1 7 (.mv (cI 0))])
  (.seq (.seq (.reg [o1 9 (.load (some 1) (.t 3)),
     o1 10 (.mv (.t 1)),
     o1 11 (.mv (.t 2)),
     o1 12 (.call (.f 98) [(.t 9), (.t 10), (.t 11)]),
     o1 8 (.mv (.t 12))])
    (.seq (.reg [o1 13 (.mv (.t 8)),
      o1 14 (.bin .neq (.t 13) (cI 0))])
     (.cond (.t 14) (.seq (.reg [o1 15 (.mv (.t 8)),
        o1 6 (.mv (.c (.slice none 0 0))),
        o1 7 (.mv (.t 15))])
       (.ret)) (.skip))))
   (.seq (.reg [o1 16 (.load (some 1) (.t 3)),
     o1 17 (.mv (.t 1)),
     o1 18 (.mv (.t 2)),
     o1 19 (.call (.f 99) [(.t 16), (.t 17), (.t 18)]),
     o1 6 (.mv (.t 19)),
     o1 7 (.mv (cI 0))])
    (.ret)))
theorem s48_ok : lookF Try.prog 48 = some (s48, 20, [.tmp 6, .tmp 7]) := by kernel_rfl
theorem rHarmonyF_ok (s : List Sound) (l : List Arch) (w : List Str) (hsz : ∀ a ∈ l, a.1.size ≤ 4611686018427387904) : Fn P 48 [sndA s, sl l, sl w] (hrA (hrT s l w)) := by
  have c1 := rSounds_ok s l w hsz
  by_cases h : hrE s l w = 0
  · obtain ⟨h1, h2, h3⟩ := hrE_zero h
    obtain ⟨_, _, _, hb⟩ := archErr_zero h2
    have hw := wordErr_len (wordsErr_one h3)
    have c2 := rHarmony_ok s l w (by omega) (arch_distinct hb) (fun a ha => (arch_short hb a ha).2) (fun x => (snd_cls h1 x).2)
    rw [hrT, if_neg (by omega)]
    rw [h] at c1
    (refine fn_look s48_ok (by simp) (by intro k; simp only [go_sem, Nat.reduceEqDiff, ↓reduceIte, reduceCtorEq, Nat.reduceAdd, Nat.reduceMul, Int.reduceToNat, List.reduceReplicate, Nat.reduceLeDiff, Nat.reduceLT, Int.reduceLT, Int.reduceLE, Int.reduceEq]) fun S hS => cwp_sound _ _ _ _ ?_; simp (maxSteps := 900000) (disch := omega) only [s48, go_sem, Nat.reduceEqDiff, ↓reduceIte, reduceCtorEq, Nat.reduceAdd, Nat.reduceMul, Int.reduceToNat, List.reduceReplicate, Nat.reduceLeDiff, Nat.reduceLT, Int.reduceLT, Int.reduceLE, Int.reduceEq])
    repeat' (first | with_reducible refine inw ?_ | simp (maxSteps := 900000) (disch := omega) only [go_sem, Nat.reduceEqDiff, ↓reduceIte, reduceCtorEq, Nat.reduceAdd, Nat.reduceMul, Int.reduceToNat, List.reduceReplicate, Nat.reduceLeDiff, Nat.reduceLT, Int.reduceLT, Int.reduceLE, Int.reduceEq] | (with_reducible apply call (c1)); (focus simp (maxSteps := 900000) (disch := omega) only [go_sem, Nat.reduceEqDiff, ↓reduceIte, reduceCtorEq, Nat.reduceAdd, Nat.reduceMul, Int.reduceToNat, List.reduceReplicate, Nat.reduceLeDiff, Nat.reduceLT, Int.reduceLT, Int.reduceLE, Int.reduceEq] <;> rfl) | (with_reducible apply call (c2)); (focus simp (maxSteps := 900000) (disch := omega) only [go_sem, Nat.reduceEqDiff, ↓reduceIte, reduceCtorEq, Nat.reduceAdd, Nat.reduceMul, Int.reduceToNat, List.reduceReplicate, Nat.reduceLeDiff, Nat.reduceLT, Int.reduceLT, Int.reduceLE, Int.reduceEq] <;> rfl) | with_reducible refine pickB_f ?_ | with_reducible refine giv_intro fun _h => ?_ | with_reducible refine alt_intro ?_ fun _h => ?_ | with_reducible refine pickD_nil ?_ | (with_reducible refine brc (fun _h => ?_) fun _h => ?_) <;> first | (exfalso; omega) | simp only [decide_eq_false _h] | simp only [(_h : (_ : Bool) = _)] | simp only [decide_eq_true _h] | skip)
  · rw [hrT, if_pos h]
    (refine fn_look s48_ok (by simp) (by intro k; simp only [go_sem, Nat.reduceEqDiff, ↓reduceIte, reduceCtorEq, Nat.reduceAdd, Nat.reduceMul, Int.reduceToNat, List.reduceReplicate, Nat.reduceLeDiff, Nat.reduceLT, Int.reduceLT, Int.reduceLE, Int.reduceEq]) fun S hS => cwp_sound _ _ _ _ ?_; simp (maxSteps := 900000) (disch := omega) only [s48, go_sem, Nat.reduceEqDiff, ↓reduceIte, reduceCtorEq, Nat.reduceAdd, Nat.reduceMul, Int.reduceToNat, List.reduceReplicate, Nat.reduceLeDiff, Nat.reduceLT, Int.reduceLT, Int.reduceLE, Int.reduceEq])
    repeat' (first | with_reducible refine inw ?_ | simp (maxSteps := 900000) (disch := omega) only [go_sem, Nat.reduceEqDiff, ↓reduceIte, reduceCtorEq, Nat.reduceAdd, Nat.reduceMul, Int.reduceToNat, List.reduceReplicate, Nat.reduceLeDiff, Nat.reduceLT, Int.reduceLT, Int.reduceLE, Int.reduceEq] | (with_reducible apply call (c1)); (focus simp (maxSteps := 900000) (disch := omega) only [go_sem, Nat.reduceEqDiff, ↓reduceIte, reduceCtorEq, Nat.reduceAdd, Nat.reduceMul, Int.reduceToNat, List.reduceReplicate, Nat.reduceLeDiff, Nat.reduceLT, Int.reduceLT, Int.reduceLE, Int.reduceEq] <;> rfl) | with_reducible refine pickB_f ?_ | with_reducible refine giv_intro fun _h => ?_ | with_reducible refine alt_intro ?_ fun _h => ?_ | with_reducible refine pickD_nil ?_ | (with_reducible refine brc (fun _h => ?_) fun _h => ?_) <;> first | (exfalso; omega) | simp only [decide_eq_false _h] | simp only [(_h : (_ : Bool) = _)] | simp only [decide_eq_true _h] | skip)
    all_goals rfl
/-- (*ablaut/harm.sung).take: 2 parameters, 0 captured -/
def s97 : SC := .seq (.reg [o1 5 (.mv (.t 0)),
   o1 6 (.nilck (.t 5)),
   o1 7 (.faddr 0 (.t 6)),
   o1 8 (.load none (.t 7)),
   o1 9 (.mv (.t 1)),
   o1 10 (.look .str (.agg #[(.string ⟨#[]⟩), (.int .i64 0), (.bool false), (.int .i64 0)]) false (.t 8) (.t 9)),
   o1 4 (.alloc 74 4 [(.string ⟨#[]⟩), (.int .i64 0), (.bool false), (.int .i64 0)]),
   o0 (.store 4 (.t 4) (.t 10))])
  (.seq (.reg [o1 11 (.faddr 2 (.t 4)),
    o1 12 (.load none (.t 11)),
    o1 13 (.mv (.t 12)),
    oT 14 (.faddr 3 (.t 4)) 13,
    oT 15 (.load none (.t 14)) 13,
    oT 16 (.bin .gtr (.t 15) (cI 0)) 13,
    o1 17 (.pick (.t 13) (.t 16) (cB false))])
   (.cond (.t 17) (.reg [o1 18 (.mv (.t 0)),
     o1 19 (.faddr 3 (.t 4)),
     o1 20 (.load none (.t 19)),
     o1 21 (.nilck (.t 18)),
     o1 22 (.faddr 1 (.t 21)),
     o0 (.store 1 (.t 22) (.t 20))]) (.skip)))
theorem s97_ok : lookF Try.prog 97 = some (s97, 23, []) := by kernel_rfl
/-- ablaut/harm.Harmony: 3 parameters, 0 captured -/
def s47 : SC := .seq (.reg [o1 3 (.box 37 1 (.t 0)),
   o1 6 (.mv (.c (.slice none 0 0))),
   o1 7 (.mv (cI 0))])
  (.seq (.seq (.reg [o1 14 (.load (some 1) (.t 3)),
     o1 15 (.call (.f 51) [(.t 14)]),
     o1 16 (.mv (.t 1)),
     o1 17 (.call (.f 95) [(.t 16)]),
     o1 18 (.mv (.t 2)),
     o1 19 (.buildSl 22 1 1 [(.slice none 0 0)] [(0, 1, (.t 18))]),
     o1 20 (.call (.f 53) [(.t 19)]),
     o1 21 (.buildSl 25 1 3 [(.int .i64 0)] [(0, 1, (.t 15)), (1, 1, (.t 17)), (2, 1, (.t 20))]),
     o1 22 (.call (.f 62) [(.t 21)]),
     o1 8 (.mv (.t 22))])
    (.seq (.reg [o1 23 (.mv (.t 8)),
      o1 24 (.bin .neq (.t 23) (cI 0))])
     (.cond (.t 24) (.seq (.reg [o1 25 (.mv (.t 8)),
        o1 6 (.mv (.c (.slice none 0 0))),
        o1 7 (.mv (.t 25))])
       (.ret)) (.skip))))
   (.seq (.reg [o1 26 (.load (some 1) (.t 3)),
     o1 27 (.call (.f 63) [(.t 26)]),
     o1 28 (.build [(.map none), (.int .i64 0)] [(0, 1, (.t 27))]),
     o1 29 (.box 114 2 (.t 28)),
     o1 9 (.mv (.t 29))])
    (.seq (.reg [o1 10 (.mv (.c (.slice none 0 0)))])
     (.seq (.seq (.reg [o1 30 (.mv (.t 2)),
        o1 31 (.lenL (.t 30)),
        o1 32 (.mv (cI 0))])
       (.block 0 (.loop (.seq (.reg [o1 33 (.bin .lss (.t 32) (.t 31))])
          (.seq (.cond (.t 33) (.skip) (.exit 0))
           (.seq (.block 1 (.seq (.reg [o1 34 (.iaddr 1 (.t 30) (.t 32)),
               o1 35 (.load none (.t 34)),
               o1 12 (.mv (.t 35))])
              (.seq (.reg [o1 36 (.mv (.t 9)),
                o1 37 (.mv (.t 1)),
                o1 38 (.mv (.t 12)),
                o1 39 (.call (.f 96) [(.t 36), (.t 37), (.t 38)]),
                o1 13 (.mv (.t 39))])
               (.seq (.reg [o1 40 (.mv (.t 9)),
                 o1 41 (.mv (.t 13)),
                 o1 42 (.call (.f 97) [(.t 40), (.t 41)])])
                (.reg [o1 43 (.mv (.t 10)),
                 o1 44 (.mv (.t 13)),
                 o1 45 (.buildSl 9 1 1 [(.string ⟨#[]⟩)] [(0, 1, (.t 44))]),
                 o1 46 (.app 9 1 16 (.t 43) (.t 45)),
                 o1 10 (.mv (.t 46))])))))
            (.reg [o1 47 (.bin .add (.t 32) (cI 1)),
             o1 32 (.mv (.t 47))])))))))
      (.seq (.reg [o1 48 (.mv (.t 10)),
        o1 6 (.mv (.t 48)),
        o1 7 (.mv (cI 0))])
       (.ret))))))
theorem s47_ok : lookF Try.prog 47 = some (s47, 49, [.tmp 6, .tmp 7]) := by kernel_rfl
set_option maxHeartbeats 1000000 in
theorem hHarmony_ok (s : List Sound) (l : List Arch) (w : List Str) : Fn P 47 [sndA s, sl l, sl w] (hrA (hrT s l w)) := by
  have c1 := hValidate_ok s
  have c2 := hArches_ok l
  have c3 := words_ok [w]
  have c4 := first_ok [sndErr s, archErr l, wordsErr [w]]
  rw [show firstE [sndErr s, archErr l, wordsErr [w]] = hrE s l w from rfl] at c4
  by_cases h : hrE s l w = 0
  · obtain ⟨h1, h2, h3⟩ := hrE_zero h
    obtain ⟨_, _, _, hb⟩ := archErr_zero h2
    have hw := wordErr_len (wordsErr_one h3)
    have hsh := fun a ha => (arch_short hb a ha).2
    have hcl := fun x => (snd_cls h1 x).2
    rw [hrT, if_neg (by omega)]
    rw [h] at c4
    have c5 := of_ok s
    have ev := vowM_of h1
    have ec := clsM_of h1
    generalize ofM s = m at *
    (refine fn_look s47_ok (by simp) (by intro k; simp only [go_sem, Nat.reduceEqDiff, ↓reduceIte, reduceCtorEq, Nat.reduceAdd, Nat.reduceMul, Int.reduceToNat, List.reduceReplicate, Nat.reduceLeDiff, Nat.reduceLT, Int.reduceLT, Int.reduceLE, Int.reduceEq]) fun S hS => cwp_sound _ _ _ _ ?_; simp (maxSteps := 900000) (disch := omega) only [s47, go_sem, Nat.reduceEqDiff, ↓reduceIte, reduceCtorEq, Nat.reduceAdd, Nat.reduceMul, Int.reduceToNat, List.reduceReplicate, Nat.reduceLeDiff, Nat.reduceLT, Int.reduceLT, Int.reduceLE, Int.reduceEq])
    repeat' (first | with_reducible refine inw ?_ | simp (maxSteps := 900000) (disch := omega) only [go_sem, Nat.reduceEqDiff, ↓reduceIte, reduceCtorEq, Nat.reduceAdd, Nat.reduceMul, Int.reduceToNat, List.reduceReplicate, Nat.reduceLeDiff, Nat.reduceLT, Int.reduceLT, Int.reduceLE, Int.reduceEq] | (with_reducible apply call (c1)); (focus simp (maxSteps := 900000) (disch := omega) only [go_sem, Nat.reduceEqDiff, ↓reduceIte, reduceCtorEq, Nat.reduceAdd, Nat.reduceMul, Int.reduceToNat, List.reduceReplicate, Nat.reduceLeDiff, Nat.reduceLT, Int.reduceLT, Int.reduceLE, Int.reduceEq] <;> rfl) | (with_reducible apply call (c2)); (focus simp (maxSteps := 900000) (disch := omega) only [go_sem, Nat.reduceEqDiff, ↓reduceIte, reduceCtorEq, Nat.reduceAdd, Nat.reduceMul, Int.reduceToNat, List.reduceReplicate, Nat.reduceLeDiff, Nat.reduceLT, Int.reduceLT, Int.reduceLE, Int.reduceEq] <;> rfl) | (with_reducible apply call_lend (c3)); (focus simp (maxSteps := 900000) (disch := omega) only [go_sem, Nat.reduceEqDiff, ↓reduceIte, reduceCtorEq, Nat.reduceAdd, Nat.reduceMul, Int.reduceToNat, List.reduceReplicate, Nat.reduceLeDiff, Nat.reduceLT, Int.reduceLT, Int.reduceLE, Int.reduceEq] <;> rfl); (focus rfl) | (with_reducible apply call_lend (c4)); (focus simp (maxSteps := 900000) (disch := omega) only [go_sem, Nat.reduceEqDiff, ↓reduceIte, reduceCtorEq, Nat.reduceAdd, Nat.reduceMul, Int.reduceToNat, List.reduceReplicate, Nat.reduceLeDiff, Nat.reduceLT, Int.reduceLT, Int.reduceLE, Int.reduceEq] <;> rfl); (focus rfl) | (with_reducible apply call (c5)); (focus simp (maxSteps := 900000) (disch := omega) only [go_sem, Nat.reduceEqDiff, ↓reduceIte, reduceCtorEq, Nat.reduceAdd, Nat.reduceMul, Int.reduceToNat, List.reduceReplicate, Nat.reduceLeDiff, Nat.reduceLT, Int.reduceLT, Int.reduceLE, Int.reduceEq] <;> rfl) | with_reducible refine pickB_f ?_ | with_reducible refine giv_intro fun _h => ?_ | with_reducible refine alt_intro ?_ fun _h => ?_ | with_reducible refine pickD_nil ?_ | (with_reducible refine brc (fun _h => ?_) fun _h => ?_) <;> first | (exfalso; omega) | simp only [decide_eq_false _h] | simp only [(_h : (_ : Bool) = _)] | simp only [decide_eq_true _h] | skip)
    refine nil_row 10 9 1 (by simp (maxSteps := 900000) (disch := omega) only [go_sem, Nat.reduceEqDiff, ↓reduceIte, reduceCtorEq, Nat.reduceAdd, Nat.reduceMul, Int.reduceToNat, List.reduceReplicate, Nat.reduceLeDiff, Nat.reduceLT, Int.reduceLT, Int.reduceLE, Int.reduceEq]) ?_
    (refine loopC hS [1, 9, 30, 31] (by simp only [go_sem, Nat.reduceEqDiff, ↓reduceIte, reduceCtorEq, Nat.reduceAdd, Nat.reduceMul, Int.reduceToNat, List.reduceReplicate, Nat.reduceLeDiff, Nat.reduceLT, Int.reduceLT, Int.reduceLE, Int.reduceEq]; try rfl) (fun (i : Nat) => [(10, own S 4 (harmT s l (w.take i) 0)), (32, intA i)]) (fun (i : Nat) => [none, none, none, some (.row 114 2 [romA m, intA (clsT s (harmT s l (w.take i) 0) 0)]), rowO 9 (harmT s l (w.take i) 0)]) (fun (i : Nat) => i ≤ w.length) (fun (i : Nat) => w.length - i) (0) ?_ (by intro s; first | (simp only [List.length_cons, List.length_nil]; done) | rfl | (rcases s with ⟨_, _⟩; rfl) | (rcases s with ⟨_, _, _⟩; rfl) | (rcases s with ⟨_, _, _, _⟩; rfl) | (rcases s with ⟨_, _, _, _, _⟩; rfl)) ?_)
    · simp (maxSteps := 900000) (disch := omega) only [go_sem, Nat.reduceEqDiff, ↓reduceIte, reduceCtorEq, Nat.reduceAdd, Nat.reduceMul, Int.reduceToNat, List.reduceReplicate, Nat.reduceLeDiff, Nat.reduceLT, Int.reduceLT, Int.reduceLE, Int.reduceEq]
      exact ⟨Nat.zero_le _, ⟨rfl, rfl⟩, rfl, rfl⟩
    rintro i hi
    replace hi : i ≤ w.length := hi
    have hlh := harmT_len s l (w.take i) 0
    rw [List.length_take] at hlh
    by_cases hil : i < w.length
    · have hcb := clsT_le hcl (harmT s l (w.take i) 0) 0 (by omega)
      have hst : harmT s l (w.take (i + 1)) 0 = harmT s l (w.take i) 0 ++ [wrT l (nth w i) (clsT s (harmT s l (w.take i) 0) 0)] := by
        rw [List.take_add_one, nth_get? hil]; exact harmT_snoc s l _ _ 0
      have hcs : clsT s (harmT s l (w.take (i + 1)) 0) 0 = aftT s (wrT l (nth w i) (clsT s (harmT s l (w.take i) 0) 0)) (clsT s (harmT s l (w.take i) 0) 0) := by rw [hst, clsT_snoc]
      have c6 := becomes_ok m l (nth w i) (clsT s (harmT s l (w.take i) 0) 0) (by omega) hsh
      generalize wrT l (nth w i) (clsT s (harmT s l (w.take i) 0) 0) = y at *
      generalize clsT s (harmT s l (w.take i) 0) 0 = k at *
      have ey : vowR s y = ((getM m y).getD (⟨#[]⟩, 0, false, 0)).2.2.1 := by rw [← ev]; rfl
      have ez : clsR s y = ((getM m y).getD (⟨#[]⟩, 0, false, 0)).2.2.2 := by rw [← ec]; rfl
      have hyc := (snd_cls h1 y).1
      have h5 : (harmT s l (w.take (i + 1)) 0).length = (harmT s l (w.take i) 0).length + 1 := by rw [hst, List.length_append, List.length_singleton]
      have hwit : ∀ z : Int, z = aftT s y k → ∃ s', (w.length - s' < w.length - i ∧ s' ≤ w.length) ∧ (((harmT s l (w.take i) 0).length + 1 = (harmT s l (w.take s') 0).length ∧ (harmT s l (w.take i) 0).length + 1 = (harmT s l (w.take s') 0).length) ∧ (i : Int) + 1 = s') ∧
          [romA m, AV.sc (Value.int IntKind.i64 z)] = [romA m, intA (clsT s (harmT s l (w.take s') 0) 0)] ∧ cellsL (harmT s l (w.take i) 0 ++ [y]) = cellsL (harmT s l (w.take s') 0) := fun z hz =>
        ⟨i + 1, ⟨by omega, by omega⟩, ⟨⟨h5.symm, h5.symm⟩, by omega⟩, by rw [hz, hcs], by rw [hst]⟩
      have hA : vowR s y = true ∧ 0 < clsR s y → aftT s y k = (clsR s y).toNat := fun h => by rw [aftT, if_pos h]
      have hB : ¬(vowR s y = true ∧ 0 < clsR s y) → aftT s y k = k := fun h => by rw [aftT, if_neg h]
      rw [ey, ez] at hA hB
      rw [ez] at hyc
      clear ey ez
      repeat' (first | with_reducible refine inw ?_ | simp (maxSteps := 900000) (disch := omega) only [go_sem, Nat.reduceEqDiff, ↓reduceIte, reduceCtorEq, Nat.reduceAdd, Nat.reduceMul, Int.reduceToNat, List.reduceReplicate, Nat.reduceLeDiff, Nat.reduceLT, Int.reduceLT, Int.reduceLE, Int.reduceEq, zS] | (with_reducible apply call_lend (c6)); (focus simp (maxSteps := 900000) (disch := omega) only [go_sem, Nat.reduceEqDiff, ↓reduceIte, reduceCtorEq, Nat.reduceAdd, Nat.reduceMul, Int.reduceToNat, List.reduceReplicate, Nat.reduceLeDiff, Nat.reduceLT, Int.reduceLT, Int.reduceLE, Int.reduceEq, zS] <;> rfl); (focus rfl) | (with_reducible refine callI s97_ok (by simp) hS (cwp_sound _ _ _ _ ?_)); simp (maxSteps := 900000) (disch := omega) only [s97, go_sem, Nat.reduceEqDiff, ↓reduceIte, reduceCtorEq, Nat.reduceAdd, Nat.reduceMul, Int.reduceToNat, List.reduceReplicate, Nat.reduceLeDiff, Nat.reduceLT, Int.reduceLT, Int.reduceLE, Int.reduceEq, zS] | with_reducible refine pickB_f ?_ | with_reducible refine giv_intro fun _h => ?_ | with_reducible refine alt_intro ?_ fun _h => ?_ | with_reducible refine pickD_nil ?_ | (with_reducible refine brc (fun _h => ?_) fun _h => ?_) <;> first | (exfalso; omega) | simp only [decide_eq_false _h] | simp only [(_h : (_ : Bool) = _)] | simp only [decide_eq_true _h] | skip)
      all_goals generalize (getM m y).getD (⟨#[]⟩, 0, false, 0) = r at *
      all_goals first
        | (refine hwit _ ?_; rw [hA ⟨by assumption, by assumption⟩, Int.toNat_of_nonneg hyc]; done)
        | (refine hwit _ ?_; rw [hB fun h => by rcases h with ⟨q1, q2⟩; first | omega | (rw [q1] at _h; cases _h)]; done)
    · rw [List.take_of_length_le (by omega)]
      repeat' (first | with_reducible refine inw ?_ | simp (maxSteps := 900000) (disch := omega) only [go_sem, Nat.reduceEqDiff, ↓reduceIte, reduceCtorEq, Nat.reduceAdd, Nat.reduceMul, Int.reduceToNat, List.reduceReplicate, Nat.reduceLeDiff, Nat.reduceLT, Int.reduceLT, Int.reduceLE, Int.reduceEq] | with_reducible refine pickB_f ?_ | with_reducible refine giv_intro fun _h => ?_ | with_reducible refine alt_intro ?_ fun _h => ?_ | with_reducible refine pickD_nil ?_ | (with_reducible refine brc (fun _h => ?_) fun _h => ?_) <;> first | (exfalso; omega) | simp only [decide_eq_false _h] | simp only [(_h : (_ : Bool) = _)] | simp only [decide_eq_true _h] | skip)
      all_goals rfl
  · rw [hrT, if_pos h]
    (refine fn_look s47_ok (by simp) (by intro k; simp only [go_sem, Nat.reduceEqDiff, ↓reduceIte, reduceCtorEq, Nat.reduceAdd, Nat.reduceMul, Int.reduceToNat, List.reduceReplicate, Nat.reduceLeDiff, Nat.reduceLT, Int.reduceLT, Int.reduceLE, Int.reduceEq]) fun S hS => cwp_sound _ _ _ _ ?_; simp (maxSteps := 900000) (disch := omega) only [s47, go_sem, Nat.reduceEqDiff, ↓reduceIte, reduceCtorEq, Nat.reduceAdd, Nat.reduceMul, Int.reduceToNat, List.reduceReplicate, Nat.reduceLeDiff, Nat.reduceLT, Int.reduceLT, Int.reduceLE, Int.reduceEq])
    repeat' (first | with_reducible refine inw ?_ | simp (maxSteps := 900000) (disch := omega) only [go_sem, Nat.reduceEqDiff, ↓reduceIte, reduceCtorEq, Nat.reduceAdd, Nat.reduceMul, Int.reduceToNat, List.reduceReplicate, Nat.reduceLeDiff, Nat.reduceLT, Int.reduceLT, Int.reduceLE, Int.reduceEq] | (with_reducible apply call (c1)); (focus simp (maxSteps := 900000) (disch := omega) only [go_sem, Nat.reduceEqDiff, ↓reduceIte, reduceCtorEq, Nat.reduceAdd, Nat.reduceMul, Int.reduceToNat, List.reduceReplicate, Nat.reduceLeDiff, Nat.reduceLT, Int.reduceLT, Int.reduceLE, Int.reduceEq] <;> rfl) | (with_reducible apply call (c2)); (focus simp (maxSteps := 900000) (disch := omega) only [go_sem, Nat.reduceEqDiff, ↓reduceIte, reduceCtorEq, Nat.reduceAdd, Nat.reduceMul, Int.reduceToNat, List.reduceReplicate, Nat.reduceLeDiff, Nat.reduceLT, Int.reduceLT, Int.reduceLE, Int.reduceEq] <;> rfl) | (with_reducible apply call_lend (c3)); (focus simp (maxSteps := 900000) (disch := omega) only [go_sem, Nat.reduceEqDiff, ↓reduceIte, reduceCtorEq, Nat.reduceAdd, Nat.reduceMul, Int.reduceToNat, List.reduceReplicate, Nat.reduceLeDiff, Nat.reduceLT, Int.reduceLT, Int.reduceLE, Int.reduceEq] <;> rfl); (focus rfl) | (with_reducible apply call_lend (c4)); (focus simp (maxSteps := 900000) (disch := omega) only [go_sem, Nat.reduceEqDiff, ↓reduceIte, reduceCtorEq, Nat.reduceAdd, Nat.reduceMul, Int.reduceToNat, List.reduceReplicate, Nat.reduceLeDiff, Nat.reduceLT, Int.reduceLT, Int.reduceLE, Int.reduceEq] <;> rfl); (focus rfl) | with_reducible refine pickB_f ?_ | with_reducible refine giv_intro fun _h => ?_ | with_reducible refine alt_intro ?_ fun _h => ?_ | with_reducible refine pickD_nil ?_ | (with_reducible refine brc (fun _h => ?_) fun _h => ?_) <;> first | (exfalso; omega) | simp only [decide_eq_false _h] | simp only [(_h : (_ : Bool) = _)] | simp only [decide_eq_true _h] | skip)
    all_goals rfl
end Go.Proofs.Ytpfoflhhbkjngaa.Ev

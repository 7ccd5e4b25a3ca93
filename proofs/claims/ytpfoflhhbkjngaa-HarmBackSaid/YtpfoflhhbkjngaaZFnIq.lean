/- A word is among those of which harmony makes what it makes of it: the law. -/
import Derived.Test.YtpfoflhhbkjngaaZFnIp
import Derived.Test.YtpfoflhhbkjngaaZFnIk
set_option linter.unusedVariables false
set_option linter.unusedSimpArgs false
namespace Go.Proofs.Ytpfoflhhbkjngaa.Ev
open Go Go.Proofs

/-- Good words make good words. -/
theorem harm_back_good {s : List Sound} {l : List Arch} {w u : List Str} (hb : ∀ i, i < l.length → badA l i = false) (hw : wordErr w = 0) (h : harmT s l u 0 = w) : wordErr u = 0 := by
  have key : ∀ (u w : List Str) (c : Nat), harmT s l u c = w → ∀ x ∈ u, (∃ a ∈ l, a.1 = x) ∨ x ∈ w := by
    intro u
    induction u with
    | nil => intro w c _ x hx; cases hx
    | cons z u ih =>
      intro w c h x hx
      rw [harmT] at h
      subst h
      rcases List.mem_cons.1 hx with rfl | hx
      · by_cases e : wrT l x c = x
        · right; rw [e]; simp
        · exact .inl (wrT_head e)
      · rcases ih _ _ rfl x hx with h | h
        · exact .inl h
        · exact .inr (List.mem_cons_of_mem _ h)
  have hl := harmT_len s l u 0
  rw [h] at hl
  obtain ⟨h1, h2⟩ := wordErr_iff.1 hw
  refine wordErr_iff.2 ⟨by omega, fun x hx => ?_⟩
  rcases key u w 0 h x hx with ⟨a, ha, rfl⟩ | h
  · have := (arch_short hb a ha).1
    simp only [goodS, Bool.and_eq_true, decide_eq_true_eq] at this
    exact ⟨this.2.2, this.1, by omega⟩
  · exact h2 x h
/-- What the law asks of the words that are found. -/
theorem back_facts {s : List Sound} {l : List Arch} {w v : List Str} (hw : hrE s l w = 0) (hv : harmT s l w 0 = v) (he : (uhT s l v).2 = 0) :
    (∀ u ∈ (uhT s l v).1, hrT s l u = (v, 0)) ∧ AscC compL (uhT s l v).1 ∧ w ∈ (uhT s l v).1 := by
  obtain ⟨h1, h2, h3⟩ := hrE_zero hw
  obtain ⟨_, _, _, hb⟩ := archErr_zero h2
  unfold uhT at he ⊢
  split at he
  · rename_i q; exact absurd he q
  rename_i q1
  split at he
  · cases he
  rename_i q2
  split at he
  · cases he
  rename_i q3
  rw [if_neg q1, if_neg q2, if_neg q3]
  obtain ⟨g1, g2⟩ := insAll_ok cmp_compL (prodT s l v 0 [[]])
  have q1' : hrE s l v = 0 := by omega
  have hv0 := wordsErr_one (hrE_zero q1').2.2
  refine ⟨fun u hu => ?_, g1, (g2 _).2 ((mem_prodT s l v w).2 hv)⟩
  have e := (mem_prodT s l v u).1 ((g2 u).1 hu)
  have hg := harm_back_good hb hv0 e
  have e2 : hrE s l u = 0 := by
    rw [hrE, h1, h2, show wordsErr [u] = 0 by simp only [wordsErr]; rw [hg]; rfl]; rfl
  rw [hrT, if_neg (by omega), e]
/-! ### sizes -/
def bIn (n : Int) : List Str → Int
  | [] => n
  | s :: w => if n ≤ 32000 then bIn (IntKind.i64.wrap (n + s.size)) w else n
def bOut (n : Int) : List (List Str) → Int
  | [] => n
  | w :: l => bOut (bIn (IntKind.i64.wrap (n + IntKind.i64.wrap (1 + w.length))) w) l
theorem bytesW_ok (l : List (List Str)) : Fn P 16 [sl l] (intA (bOut 0 l)) := by
  (refine fn_look s16_ok (by simp) (by intro k; simp only [go_sem, Nat.reduceEqDiff, ↓reduceIte, reduceCtorEq, Nat.reduceAdd, Nat.reduceMul, Int.reduceToNat, List.reduceReplicate, Nat.reduceLeDiff, Nat.reduceLT, Int.reduceLT, Int.reduceLE, Int.reduceEq]) fun S hS => cwp_sound _ _ _ _ ?_; simp (maxSteps := 900000) (disch := omega) only [s16, go_sem, Nat.reduceEqDiff, ↓reduceIte, reduceCtorEq, Nat.reduceAdd, Nat.reduceMul, Int.reduceToNat, List.reduceReplicate, Nat.reduceLeDiff, Nat.reduceLT, Int.reduceLT, Int.reduceLE, Int.reduceEq])
  (refine loopC hS [0] (by simp only [go_sem, Nat.reduceEqDiff, ↓reduceIte, reduceCtorEq, Nat.reduceAdd, Nat.reduceMul, Int.reduceToNat, List.reduceReplicate, Nat.reduceLeDiff, Nat.reduceLT, Int.reduceLT, Int.reduceLE, Int.reduceEq]; try rfl) (fun (⟨i, n⟩ : Nat × Int) => [(3, intA n), (4, intA i)]) (fun (⟨i, n⟩ : Nat × Int) => []) (fun (⟨i, n⟩ : Nat × Int) => i ≤ l.length ∧ bOut n (l.drop i) = bOut 0 l) (fun (⟨i, n⟩ : Nat × Int) => l.length - i) ((0, 0)) ?_ (by intro s; first | (simp only [List.length_cons, List.length_nil]; done) | rfl | (rcases s with ⟨_, _⟩; rfl) | (rcases s with ⟨_, _, _⟩; rfl) | (rcases s with ⟨_, _, _, _⟩; rfl) | (rcases s with ⟨_, _, _, _, _⟩; rfl)) ?_)
  · simp (maxSteps := 900000) (disch := omega) only [go_sem, Nat.reduceEqDiff, ↓reduceIte, reduceCtorEq, Nat.reduceAdd, Nat.reduceMul, Int.reduceToNat, List.reduceReplicate, Nat.reduceLeDiff, Nat.reduceLT, Int.reduceLT, Int.reduceLE, Int.reduceEq]; simp
  rintro ⟨i, n⟩ ⟨hi, hI⟩
  replace hi : i ≤ l.length := hi
  replace hI : bOut n (l.drop i) = bOut 0 l := hI
  by_cases hil : i < l.length
  · rw [nth_drop hil, bOut] at hI
    repeat' (first | with_reducible refine inw ?_ | simp (maxSteps := 900000) (disch := omega) only [go_sem, Nat.reduceEqDiff, ↓reduceIte, reduceCtorEq, Nat.reduceAdd, Nat.reduceMul, Int.reduceToNat, List.reduceReplicate, Nat.reduceLeDiff, Nat.reduceLT, Int.reduceLT, Int.reduceLE, Int.reduceEq] | with_reducible refine pickB_f ?_ | with_reducible refine giv_intro fun _h => ?_ | with_reducible refine alt_intro ?_ fun _h => ?_ | with_reducible refine pickD_nil ?_ | (with_reducible refine brc (fun _h => ?_) fun _h => ?_) <;> first | (exfalso; omega) | simp only [decide_eq_false _h] | simp only [(_h : (_ : Bool) = _)] | simp only [decide_eq_true _h] | skip)
    (refine loopC hS [0, 4] (by simp only [go_sem, Nat.reduceEqDiff, ↓reduceIte, reduceCtorEq, Nat.reduceAdd, Nat.reduceMul, Int.reduceToNat, List.reduceReplicate, Nat.reduceLeDiff, Nat.reduceLT, Int.reduceLT, Int.reduceLE, Int.reduceEq]; try rfl) (fun (⟨k, q⟩ : Nat × Int) => [(3, intA q), (5, intA k)]) (fun (⟨k, q⟩ : Nat × Int) => []) (fun (⟨k, q⟩ : Nat × Int) => k ≤ (nth l i).length ∧ bIn q ((nth l i).drop k) = bIn (IntKind.i64.wrap (n + IntKind.i64.wrap (1 + (nth l i).length))) (nth l i)) (fun (⟨k, q⟩ : Nat × Int) => (nth l i).length - k) ((0, IntKind.i64.wrap (n + IntKind.i64.wrap (1 + (nth l i).length)))) ?_ (by intro s; first | (simp only [List.length_cons, List.length_nil]; done) | rfl | (rcases s with ⟨_, _⟩; rfl) | (rcases s with ⟨_, _, _⟩; rfl) | (rcases s with ⟨_, _, _, _⟩; rfl) | (rcases s with ⟨_, _, _, _, _⟩; rfl)) ?_)
    · simp (maxSteps := 900000) (disch := omega) only [go_sem, Nat.reduceEqDiff, ↓reduceIte, reduceCtorEq, Nat.reduceAdd, Nat.reduceMul, Int.reduceToNat, List.reduceReplicate, Nat.reduceLeDiff, Nat.reduceLT, Int.reduceLT, Int.reduceLE, Int.reduceEq]; simp
    rintro ⟨k, q⟩ ⟨hk, hJ⟩
    replace hk : k ≤ (nth l i).length := hk
    replace hJ : bIn q ((nth l i).drop k) = bIn (IntKind.i64.wrap (n + IntKind.i64.wrap (1 + (nth l i).length))) (nth l i) := hJ
    by_cases hkl : k < (nth l i).length
    · rw [nth_drop hkl, bIn] at hJ
      repeat' (first | with_reducible refine inw ?_ | simp (maxSteps := 900000) (disch := omega) only [go_sem, Nat.reduceEqDiff, ↓reduceIte, reduceCtorEq, Nat.reduceAdd, Nat.reduceMul, Int.reduceToNat, List.reduceReplicate, Nat.reduceLeDiff, Nat.reduceLT, Int.reduceLT, Int.reduceLE, Int.reduceEq] | with_reducible refine pickB_f ?_ | with_reducible refine giv_intro fun _h => ?_ | with_reducible refine alt_intro ?_ fun _h => ?_ | with_reducible refine pickD_nil ?_ | (with_reducible refine brc (fun _h => ?_) fun _h => ?_) <;> first | (exfalso; omega) | simp only [decide_eq_false _h] | simp only [(_h : (_ : Bool) = _)] | simp only [decide_eq_true _h] | skip)
      · refine ⟨(k + 1, IntKind.i64.wrap (q + (nth (nth l i) k).size)), ⟨by omega, by omega, ?_⟩, rfl, by omega⟩
        show bIn (IntKind.i64.wrap (q + (nth (nth l i) k).size)) ((nth l i).drop (k + 1)) = _
        rw [← hJ, if_pos (by omega)]
      · exact ⟨(i + 1, _), ⟨by omega, by omega, by rw [← hI, ← hJ, if_neg (by omega)]⟩, rfl, by omega⟩
    · rw [drop_end (by omega), bIn] at hJ
      repeat' (first | with_reducible refine inw ?_ | simp (maxSteps := 900000) (disch := omega) only [go_sem, Nat.reduceEqDiff, ↓reduceIte, reduceCtorEq, Nat.reduceAdd, Nat.reduceMul, Int.reduceToNat, List.reduceReplicate, Nat.reduceLeDiff, Nat.reduceLT, Int.reduceLT, Int.reduceLE, Int.reduceEq] | with_reducible refine pickB_f ?_ | with_reducible refine giv_intro fun _h => ?_ | with_reducible refine alt_intro ?_ fun _h => ?_ | with_reducible refine pickD_nil ?_ | (with_reducible refine brc (fun _h => ?_) fun _h => ?_) <;> first | (exfalso; omega) | simp only [decide_eq_false _h] | simp only [(_h : (_ : Bool) = _)] | simp only [decide_eq_true _h] | skip)
      exact ⟨(i + 1, _), ⟨by omega, by omega, by rw [← hI, ← hJ]⟩, rfl, by omega⟩
  · rw [drop_end (by omega), bOut] at hI
    repeat' (first | with_reducible refine inw ?_ | simp (maxSteps := 900000) (disch := omega) only [go_sem, Nat.reduceEqDiff, ↓reduceIte, reduceCtorEq, Nat.reduceAdd, Nat.reduceMul, Int.reduceToNat, List.reduceReplicate, Nat.reduceLeDiff, Nat.reduceLT, Int.reduceLT, Int.reduceLE, Int.reduceEq] | with_reducible refine pickB_f ?_ | with_reducible refine giv_intro fun _h => ?_ | with_reducible refine alt_intro ?_ fun _h => ?_ | with_reducible refine pickD_nil ?_ | (with_reducible refine brc (fun _h => ?_) fun _h => ?_) <;> first | (exfalso; omega) | simp only [decide_eq_false _h] | simp only [(_h : (_ : Bool) = _)] | simp only [decide_eq_true _h] | skip)
    rw [hI]
/-- ablaut/ablautlaw13.archs: 1 parameters, 0 captured -/
def s46 : SC := .seq (.reg [o1 2 (.mv (cI 0))])
  (.seq (.reg [o1 5 (.mv (.t 0)),
    o1 6 (.lenL (.t 5)),
    o1 3 (.mv (.t 6))])
   (.seq (.seq (.reg [o1 4 (.mv (cI 0))])
     (.block 0 (.loop (.seq (.seq (.reg [o1 7 (.mv (.t 4)),
          o1 8 (.mv (.t 0)),
          o1 9 (.lenL (.t 8)),
          o1 10 (.bin .lss (.t 7) (.t 9)),
          o1 11 (.mv (.t 10)),
          oT 12 (.mv (.t 3)) 11,
          oT 13 (.bin .leq (.t 12) (cI 32000)) 11,
          o1 14 (.pick (.t 11) (.t 13) (cB false))])
         (.cond (.t 14) (.skip) (.exit 0)))
        (.seq (.block 1 (.regD [o1 17 (.mv (.t 3)),
           o1 18 (.mv (.t 0)),
           o1 19 (.mv (.t 4)),
           o1 20 (.iaddr 2 (.t 18) (.t 19)),
           o1 21 (.faddr 0 (.t 20)),
           o1 22 (.load none (.t 21)),
           o1 23 (.lenS (.t 22)),
           o1 24 (.mv (.t 0)),
           o1 25 (.mv (.t 4)),
           o1 26 (.iaddr 2 (.t 24) (.t 25)),
           o1 27 (.faddr 1 (.t 26)),
           o1 28 (.load none (.t 27)),
           o1 29 (.call (.f 16) [(.t 28)]),
           o1 30 (.bin .add (.t 23) (.t 29)),
           o1 31 (.bin .add (.t 17) (.t 30)),
           o1 3 (.mv (.t 31))]))
         (.reg [o1 15 (.mv (.t 4)),
          o1 16 (.bin .add (.t 15) (cI 1)),
          o1 4 (.mv (.t 16))]))))))
    (.seq (.reg [o1 32 (.mv (.t 3)),
      o1 2 (.mv (.t 32))])
     (.ret))))
theorem s46_ok : lookF Try.prog 46 = some (s46, 33, [.tmp 2]) := by kernel_rfl
theorem lArchs_ok (l : List Arch) : FnR P 46 [sl l] fun r => ∃ n : Int, r = intA n := by
  have c1 := fun i => bytesW_ok (nth l i).2
  (refine fnR_look s46_ok (by simp) (int_bel) fun S hS => cwp_sound _ _ _ _ ?_; simp (maxSteps := 900000) (disch := omega) only [s46, go_sem, Nat.reduceEqDiff, ↓reduceIte, reduceCtorEq, Nat.reduceAdd, Nat.reduceMul, Int.reduceToNat, List.reduceReplicate, Nat.reduceLeDiff, Nat.reduceLT, Int.reduceLT, Int.reduceLE, Int.reduceEq])
  repeat' (first | with_reducible refine inw ?_ | simp (maxSteps := 900000) (disch := omega) only [go_sem, Nat.reduceEqDiff, ↓reduceIte, reduceCtorEq, Nat.reduceAdd, Nat.reduceMul, Int.reduceToNat, List.reduceReplicate, Nat.reduceLeDiff, Nat.reduceLT, Int.reduceLT, Int.reduceLE, Int.reduceEq] | with_reducible refine pickB_f ?_ | with_reducible refine giv_intro fun _h => ?_ | with_reducible refine alt_intro ?_ fun _h => ?_ | with_reducible refine pickD_nil ?_ | (with_reducible refine brc (fun _h => ?_) fun _h => ?_) <;> first | (exfalso; omega) | simp only [decide_eq_false _h] | simp only [(_h : (_ : Bool) = _)] | simp only [decide_eq_true _h] | skip)
  (refine loopC hS [0] (by simp only [go_sem, Nat.reduceEqDiff, ↓reduceIte, reduceCtorEq, Nat.reduceAdd, Nat.reduceMul, Int.reduceToNat, List.reduceReplicate, Nat.reduceLeDiff, Nat.reduceLT, Int.reduceLT, Int.reduceLE, Int.reduceEq]; try rfl) (fun (⟨i, n⟩ : Nat × Int) => [(3, intA n), (4, intA i)]) (fun (⟨i, n⟩ : Nat × Int) => []) (fun (⟨i, n⟩ : Nat × Int) => i ≤ l.length) (fun (⟨i, n⟩ : Nat × Int) => l.length - i) ((0, (l.length : Int))) ?_ (by intro s; first | (simp only [List.length_cons, List.length_nil]; done) | rfl | (rcases s with ⟨_, _⟩; rfl) | (rcases s with ⟨_, _, _⟩; rfl) | (rcases s with ⟨_, _, _, _⟩; rfl) | (rcases s with ⟨_, _, _, _, _⟩; rfl)) ?_)
  · simp (maxSteps := 900000) (disch := omega) only [go_sem, Nat.reduceEqDiff, ↓reduceIte, reduceCtorEq, Nat.reduceAdd, Nat.reduceMul, Int.reduceToNat, List.reduceReplicate, Nat.reduceLeDiff, Nat.reduceLT, Int.reduceLT, Int.reduceLE, Int.reduceEq]; simp
  rintro ⟨i, n⟩ hi
  replace hi : i ≤ l.length := hi
  repeat' (first | with_reducible refine inw ?_ | simp (maxSteps := 900000) (disch := omega) only [go_sem, Nat.reduceEqDiff, ↓reduceIte, reduceCtorEq, Nat.reduceAdd, Nat.reduceMul, Int.reduceToNat, List.reduceReplicate, Nat.reduceLeDiff, Nat.reduceLT, Int.reduceLT, Int.reduceLE, Int.reduceEq] | (with_reducible apply call_D (c1 i)); (focus simp (maxSteps := 900000) (disch := omega) only [go_sem, Nat.reduceEqDiff, ↓reduceIte, reduceCtorEq, Nat.reduceAdd, Nat.reduceMul, Int.reduceToNat, List.reduceReplicate, Nat.reduceLeDiff, Nat.reduceLT, Int.reduceLT, Int.reduceLE, Int.reduceEq] <;> rfl) | with_reducible refine pickB_f ?_ | with_reducible refine giv_intro fun _h => ?_ | with_reducible refine alt_intro ?_ fun _h => ?_ | with_reducible refine pickD_nil ?_ | (with_reducible refine brc (fun _h => ?_) fun _h => ?_) <;> first | (exfalso; omega) | simp only [decide_eq_false _h] | simp only [(_h : (_ : Bool) = _)] | simp only [decide_eq_true _h] | skip)
  · exact ⟨(i + 1, _), ⟨by omega, by omega⟩, rfl, by omega⟩
  · exact ⟨_, rfl⟩
  · exact ⟨_, rfl⟩
/-- ablaut/ablautlaw13.HarmBack: 3 parameters, 0 captured -/
def s14 : SC := .seq (.reg [o1 3 (.box 37 1 (.t 0)),
   o1 6 (.mv (cB false))])
  (.seq (.seq (.reg [o1 15 (.load (some 1) (.t 3)),
     o1 16 (.call (.f 25) [(.t 15)]),
     o1 17 (.mv (.t 16)),
     oF 18 (.mv (.t 1)) 17,
     oF 19 (.call (.f 46) [(.t 18)]) 17,
     oF 20 (.bin .gtr (.t 19) (cI 32000)) 17,
     o1 21 (.pick (.t 17) (cB true) (.t 20)),
     o1 22 (.mv (.t 21)),
     oF 23 (.mv (.t 2)) 22,
     oF 24 (.buildSl 22 1 1 [(.slice none 0 0)] [(0, 1, (.t 23))]) 22,
     oF 25 (.call (.f 16) [(.t 24)]) 22,
     oF 26 (.bin .gtr (.t 25) (cI 32000)) 22,
     o1 27 (.pick (.t 22) (cB true) (.t 26))])
    (.cond (.t 27) (.seq (.reg [o1 28 (.call (.f 17) []),
       o1 6 (.mv (.t 28))])
      (.ret)) (.skip)))
   (.seq (.reg [o1 30 (.load (some 1) (.t 3)),
     o1 31 (.mv (.t 1)),
     o1 32 (.mv (.t 2)),
     o1 33 (.call (.f 47) [(.t 30), (.t 31), (.t 32)]),
     o1 29 (.mv (.t 33)),
     o1 34 (.ext (.t 29) 0),
     o1 35 (.ext (.t 29) 1),
     o1 7 (.mv (.t 34)),
     o1 8 (.mv (.t 35))])
    (.seq (.seq (.reg [o1 36 (.mv (.t 8)),
       o1 37 (.bin .neq (.t 36) (cI 0))])
      (.cond (.t 37) (.seq (.reg [o1 38 (.call (.f 17) []),
         o1 6 (.mv (.t 38))])
        (.ret)) (.skip)))
     (.seq (.reg [o1 40 (.load (some 1) (.t 3)),
       o1 41 (.mv (.t 1)),
       o1 42 (.mv (.t 7)),
       o1 43 (.call (.f 49) [(.t 40), (.t 41), (.t 42)]),
       o1 39 (.mv (.t 43)),
       o1 44 (.ext (.t 39) 0),
       o1 45 (.ext (.t 39) 1),
       o1 9 (.mv (.t 44)),
       o1 10 (.mv (.t 45))])
      (.seq (.seq (.reg [o1 46 (.mv (.t 10)),
         o1 47 (.bin .neq (.t 46) (cI 0))])
        (.cond (.t 47) (.seq (.reg [o1 48 (.call (.f 17) []),
           o1 6 (.mv (.t 48))])
          (.ret)) (.skip)))
       (.seq (.reg [o1 11 (.mv (cB false))])
        (.seq (.seq (.reg [o1 12 (.mv (cI 0))])
          (.block 0 (.loop (.seq (.seq (.reg [o1 49 (.mv (.t 12)),
               o1 50 (.mv (.t 9)),
               o1 51 (.lenL (.t 50)),
               o1 52 (.bin .lss (.t 49) (.t 51))])
              (.cond (.t 52) (.skip) (.exit 0)))
             (.seq (.block 1 (.seq (.regC [(false, o1 56 (.load (some 1) (.t 3))),
                 (false, o1 57 (.mv (.t 1))),
                 (false, o1 58 (.mv (.t 9))),
                 (false, o1 59 (.mv (.t 12))),
                 (false, o1 60 (.iaddr 1 (.t 58) (.t 59))),
                 (false, o1 61 (.load none (.t 60))),
                 (true, o1 62 (.call (.f 47) [(.t 56), (.t 57), (.t 61)])),
                 (false, o1 55 (.mv (.t 62))),
                 (false, o1 63 (.ext (.t 55) 0)),
                 (false, o1 64 (.ext (.t 55) 1)),
                 (false, o1 13 (.mv (.t 63))),
                 (false, o1 14 (.mv (.t 64)))])
                (.seq (.seq (.regC [(false, o1 65 (.mv (.t 14))),
                   (false, o1 66 (.bin .neq (.t 65) (cI 0))),
                   (false, o1 67 (.mv (.t 66))),
                   (false, oF 68 (.mv (.t 13)) 67),
                   (false, oF 69 (.mv (.t 7)) 67),
                   (true, oF 70 (.call (.f 22) [(.t 68), (.t 69)]) 67),
                   (false, oF 71 (.un .not (.t 70)) 67),
                   (false, o1 72 (.pick (.t 67) (cB true) (.t 71))),
                   (false, o1 73 (.mv (.t 72))),
                   (false, oF 74 (.mv (.t 12)) 73),
                   (false, oF 75 (.bin .gtr (.t 74) (cI 0)) 73),
                   (false, oF 76 (.mv (.t 75)) 73),
                   (false, oT 77 (.mv (.t 9)) 76),
                   (false, oT 78 (.mv (.t 12)) 76),
                   (false, oT 79 (.bin .sub (.t 78) (cI 1)) 76),
                   (false, oT 80 (.iaddr 1 (.t 77) (.t 79)) 76),
                   (false, oT 81 (.load none (.t 80)) 76),
                   (false, oT 82 (.mv (.t 9)) 76),
                   (false, oT 83 (.mv (.t 12)) 76),
                   (false, oT 84 (.iaddr 1 (.t 82) (.t 83)) 76),
                   (false, oT 85 (.load none (.t 84)) 76),
                   (true, oT 86 (.call (.f 24) [(.t 81), (.t 85)]) 76),
                   (false, oT 87 (.bin .geq (.t 86) (cI 0)) 76),
                   (false, oF 88 (.pick (.t 76) (.t 87) (cB false)) 73),
                   (false, o1 89 (.pick (.t 73) (cB true) (.t 88)))])
                  (.cond (.t 89) (.seq (.reg [o1 6 (.mv (cB false))])
                    (.ret)) (.skip)))
                 (.reg [o1 90 (.mv (.t 11)),
                  o1 91 (.mv (.t 90)),
                  oF 92 (.mv (.t 9)) 91,
                  oF 93 (.mv (.t 12)) 91,
                  oF 94 (.iaddr 1 (.t 92) (.t 93)) 91,
                  oF 95 (.load none (.t 94)) 91,
                  oF 96 (.mv (.t 2)) 91,
                  oF 97 (.call (.f 22) [(.t 95), (.t 96)]) 91,
                  o1 98 (.pick (.t 91) (cB true) (.t 97)),
                  o1 11 (.mv (.t 98))]))))
              (.reg [o1 53 (.mv (.t 12)),
               o1 54 (.bin .add (.t 53) (cI 1)),
               o1 12 (.mv (.t 54))]))))))
         (.seq (.reg [o1 99 (.mv (.t 11)),
           o1 100 (.mv (.t 99)),
           oT 101 (.call (.f 17) []) 100,
           o1 102 (.pick (.t 100) (.t 101) (cB false)),
           o1 6 (.mv (.t 102))])
          (.ret)))))))))
theorem s14_ok : lookF Try.prog 14 = some (s14, 103, [.tmp 6]) := by kernel_rfl
set_option maxHeartbeats 1000000 in
theorem HarmBack_ok (s : List Sound) (l : List Arch) (w : List Str) : Fn P 14 [sndA s, sl l, sl w] (boolA true) := by
  have k1 := hHarmony_ok s l w
  by_cases he : hrE s l w ≠ 0
  · have e1 : hrT s l w = ([], hrE s l w) := by rw [hrT, if_pos he]
    rw [e1] at k1
    (refine fn_look s14_ok (by simp) (by intro k; simp only [go_sem, Nat.reduceEqDiff, ↓reduceIte, reduceCtorEq, Nat.reduceAdd, Nat.reduceMul, Int.reduceToNat, List.reduceReplicate, Nat.reduceLeDiff, Nat.reduceLT, Int.reduceLT, Int.reduceLE, Int.reduceEq]) fun S hS => cwp_sound _ _ _ _ ?_; simp (maxSteps := 900000) (disch := omega) only [s14, go_sem, Nat.reduceEqDiff, ↓reduceIte, reduceCtorEq, Nat.reduceAdd, Nat.reduceMul, Int.reduceToNat, List.reduceReplicate, Nat.reduceLeDiff, Nat.reduceLT, Int.reduceLT, Int.reduceLE, Int.reduceEq])
    repeat' (first | with_reducible refine inw ?_ | simp (maxSteps := 900000) (disch := omega) only [go_sem, Nat.reduceEqDiff, ↓reduceIte, reduceCtorEq, Nat.reduceAdd, Nat.reduceMul, Int.reduceToNat, List.reduceReplicate, Nat.reduceLeDiff, Nat.reduceLT, Int.reduceLT, Int.reduceLE, Int.reduceEq] | (with_reducible apply call (known_ok)); (focus simp (maxSteps := 900000) (disch := omega) only [go_sem, Nat.reduceEqDiff, ↓reduceIte, reduceCtorEq, Nat.reduceAdd, Nat.reduceMul, Int.reduceToNat, List.reduceReplicate, Nat.reduceLeDiff, Nat.reduceLT, Int.reduceLT, Int.reduceLE, Int.reduceEq] <;> rfl) | (with_reducible apply callR (over_ok s)); (focus simp (maxSteps := 900000) (disch := omega) only [go_sem, Nat.reduceEqDiff, ↓reduceIte, reduceCtorEq, Nat.reduceAdd, Nat.reduceMul, Int.reduceToNat, List.reduceReplicate, Nat.reduceLeDiff, Nat.reduceLT, Int.reduceLT, Int.reduceLE, Int.reduceEq] <;> rfl); rintro _ ⟨_, rfl⟩ | (with_reducible apply callR (lArchs_ok l)); (focus simp (maxSteps := 900000) (disch := omega) only [go_sem, Nat.reduceEqDiff, ↓reduceIte, reduceCtorEq, Nat.reduceAdd, Nat.reduceMul, Int.reduceToNat, List.reduceReplicate, Nat.reduceLeDiff, Nat.reduceLT, Int.reduceLT, Int.reduceLE, Int.reduceEq] <;> rfl); rintro _ ⟨_, rfl⟩ | (with_reducible apply callR_lend (bytes_ok [w] (by simp))); (focus simp (maxSteps := 900000) (disch := omega) only [go_sem, Nat.reduceEqDiff, ↓reduceIte, reduceCtorEq, Nat.reduceAdd, Nat.reduceMul, Int.reduceToNat, List.reduceReplicate, Nat.reduceLeDiff, Nat.reduceLT, Int.reduceLT, Int.reduceLE, Int.reduceEq] <;> rfl); (focus (rintro _ ⟨_, rfl⟩; rfl)); rintro _ ⟨_, rfl⟩ | (with_reducible apply call (k1)); (focus simp (maxSteps := 900000) (disch := omega) only [go_sem, Nat.reduceEqDiff, ↓reduceIte, reduceCtorEq, Nat.reduceAdd, Nat.reduceMul, Int.reduceToNat, List.reduceReplicate, Nat.reduceLeDiff, Nat.reduceLT, Int.reduceLT, Int.reduceLE, Int.reduceEq] <;> rfl) | with_reducible refine pickB_f ?_ | with_reducible refine giv_intro fun _h => ?_ | with_reducible refine alt_intro ?_ fun _h => ?_ | with_reducible refine pickD_nil ?_ | (with_reducible refine brc (fun _h => ?_) fun _h => ?_) <;> first | (exfalso; omega) | simp only [decide_eq_false _h] | simp only [(_h : (_ : Bool) = _)] | simp only [decide_eq_true _h] | skip)
    all_goals skip
  have e1 : hrT s l w = (harmT s l w 0, 0) := by rw [hrT, if_neg he]
  rw [e1] at k1
  generalize hv : harmT s l w 0 = v at *
  have k2 := hUnharmony_ok s l v
  by_cases he2 : (uhT s l v).2 ≠ 0
  · generalize uhT s l v = T at *
    obtain ⟨x, f⟩ := T
    dsimp only at *
    (refine fn_look s14_ok (by simp) (by intro k; simp only [go_sem, Nat.reduceEqDiff, ↓reduceIte, reduceCtorEq, Nat.reduceAdd, Nat.reduceMul, Int.reduceToNat, List.reduceReplicate, Nat.reduceLeDiff, Nat.reduceLT, Int.reduceLT, Int.reduceLE, Int.reduceEq]) fun S hS => cwp_sound _ _ _ _ ?_; simp (maxSteps := 900000) (disch := omega) only [s14, go_sem, Nat.reduceEqDiff, ↓reduceIte, reduceCtorEq, Nat.reduceAdd, Nat.reduceMul, Int.reduceToNat, List.reduceReplicate, Nat.reduceLeDiff, Nat.reduceLT, Int.reduceLT, Int.reduceLE, Int.reduceEq])
    repeat' (first | with_reducible refine inw ?_ | simp (maxSteps := 900000) (disch := omega) only [go_sem, Nat.reduceEqDiff, ↓reduceIte, reduceCtorEq, Nat.reduceAdd, Nat.reduceMul, Int.reduceToNat, List.reduceReplicate, Nat.reduceLeDiff, Nat.reduceLT, Int.reduceLT, Int.reduceLE, Int.reduceEq] | (with_reducible apply call (known_ok)); (focus simp (maxSteps := 900000) (disch := omega) only [go_sem, Nat.reduceEqDiff, ↓reduceIte, reduceCtorEq, Nat.reduceAdd, Nat.reduceMul, Int.reduceToNat, List.reduceReplicate, Nat.reduceLeDiff, Nat.reduceLT, Int.reduceLT, Int.reduceLE, Int.reduceEq] <;> rfl) | (with_reducible apply callR (over_ok s)); (focus simp (maxSteps := 900000) (disch := omega) only [go_sem, Nat.reduceEqDiff, ↓reduceIte, reduceCtorEq, Nat.reduceAdd, Nat.reduceMul, Int.reduceToNat, List.reduceReplicate, Nat.reduceLeDiff, Nat.reduceLT, Int.reduceLT, Int.reduceLE, Int.reduceEq] <;> rfl); rintro _ ⟨_, rfl⟩ | (with_reducible apply callR (lArchs_ok l)); (focus simp (maxSteps := 900000) (disch := omega) only [go_sem, Nat.reduceEqDiff, ↓reduceIte, reduceCtorEq, Nat.reduceAdd, Nat.reduceMul, Int.reduceToNat, List.reduceReplicate, Nat.reduceLeDiff, Nat.reduceLT, Int.reduceLT, Int.reduceLE, Int.reduceEq] <;> rfl); rintro _ ⟨_, rfl⟩ | (with_reducible apply callR_lend (bytes_ok [w] (by simp))); (focus simp (maxSteps := 900000) (disch := omega) only [go_sem, Nat.reduceEqDiff, ↓reduceIte, reduceCtorEq, Nat.reduceAdd, Nat.reduceMul, Int.reduceToNat, List.reduceReplicate, Nat.reduceLeDiff, Nat.reduceLT, Int.reduceLT, Int.reduceLE, Int.reduceEq] <;> rfl); (focus (rintro _ ⟨_, rfl⟩; rfl)); rintro _ ⟨_, rfl⟩ | (with_reducible apply call (k1)); (focus simp (maxSteps := 900000) (disch := omega) only [go_sem, Nat.reduceEqDiff, ↓reduceIte, reduceCtorEq, Nat.reduceAdd, Nat.reduceMul, Int.reduceToNat, List.reduceReplicate, Nat.reduceLeDiff, Nat.reduceLT, Int.reduceLT, Int.reduceLE, Int.reduceEq] <;> rfl) | (with_reducible apply call (k2)); (focus simp (maxSteps := 900000) (disch := omega) only [go_sem, Nat.reduceEqDiff, ↓reduceIte, reduceCtorEq, Nat.reduceAdd, Nat.reduceMul, Int.reduceToNat, List.reduceReplicate, Nat.reduceLeDiff, Nat.reduceLT, Int.reduceLT, Int.reduceLE, Int.reduceEq] <;> rfl) | with_reducible refine pickB_f ?_ | with_reducible refine giv_intro fun _h => ?_ | with_reducible refine alt_intro ?_ fun _h => ?_ | with_reducible refine pickD_nil ?_ | (with_reducible refine brc (fun _h => ?_) fun _h => ?_) <;> first | (exfalso; omega) | simp only [decide_eq_false _h] | simp only [(_h : (_ : Bool) = _)] | simp only [decide_eq_true _h] | skip)
    all_goals skip
  replace he2 : (uhT s l v).2 = 0 := by omega
  obtain ⟨b1, b2, b3⟩ := back_facts (by omega) hv he2
  rw [he2] at k2
  generalize (uhT s l v).1 = x at *
  (refine fn_look s14_ok (by simp) (by intro k; simp only [go_sem, Nat.reduceEqDiff, ↓reduceIte, reduceCtorEq, Nat.reduceAdd, Nat.reduceMul, Int.reduceToNat, List.reduceReplicate, Nat.reduceLeDiff, Nat.reduceLT, Int.reduceLT, Int.reduceLE, Int.reduceEq]) fun S hS => cwp_sound _ _ _ _ ?_; simp (maxSteps := 900000) (disch := omega) only [s14, go_sem, Nat.reduceEqDiff, ↓reduceIte, reduceCtorEq, Nat.reduceAdd, Nat.reduceMul, Int.reduceToNat, List.reduceReplicate, Nat.reduceLeDiff, Nat.reduceLT, Int.reduceLT, Int.reduceLE, Int.reduceEq])
  repeat' (first | with_reducible refine inw ?_ | simp (maxSteps := 900000) (disch := omega) only [go_sem, Nat.reduceEqDiff, ↓reduceIte, reduceCtorEq, Nat.reduceAdd, Nat.reduceMul, Int.reduceToNat, List.reduceReplicate, Nat.reduceLeDiff, Nat.reduceLT, Int.reduceLT, Int.reduceLE, Int.reduceEq] | (with_reducible apply call (known_ok)); (focus simp (maxSteps := 900000) (disch := omega) only [go_sem, Nat.reduceEqDiff, ↓reduceIte, reduceCtorEq, Nat.reduceAdd, Nat.reduceMul, Int.reduceToNat, List.reduceReplicate, Nat.reduceLeDiff, Nat.reduceLT, Int.reduceLT, Int.reduceLE, Int.reduceEq] <;> rfl) | (with_reducible apply callR (over_ok s)); (focus simp (maxSteps := 900000) (disch := omega) only [go_sem, Nat.reduceEqDiff, ↓reduceIte, reduceCtorEq, Nat.reduceAdd, Nat.reduceMul, Int.reduceToNat, List.reduceReplicate, Nat.reduceLeDiff, Nat.reduceLT, Int.reduceLT, Int.reduceLE, Int.reduceEq] <;> rfl); rintro _ ⟨_, rfl⟩ | (with_reducible apply callR (lArchs_ok l)); (focus simp (maxSteps := 900000) (disch := omega) only [go_sem, Nat.reduceEqDiff, ↓reduceIte, reduceCtorEq, Nat.reduceAdd, Nat.reduceMul, Int.reduceToNat, List.reduceReplicate, Nat.reduceLeDiff, Nat.reduceLT, Int.reduceLT, Int.reduceLE, Int.reduceEq] <;> rfl); rintro _ ⟨_, rfl⟩ | (with_reducible apply callR_lend (bytes_ok [w] (by simp))); (focus simp (maxSteps := 900000) (disch := omega) only [go_sem, Nat.reduceEqDiff, ↓reduceIte, reduceCtorEq, Nat.reduceAdd, Nat.reduceMul, Int.reduceToNat, List.reduceReplicate, Nat.reduceLeDiff, Nat.reduceLT, Int.reduceLT, Int.reduceLE, Int.reduceEq] <;> rfl); (focus (rintro _ ⟨_, rfl⟩; rfl)); rintro _ ⟨_, rfl⟩ | (with_reducible apply call (k1)); (focus simp (maxSteps := 900000) (disch := omega) only [go_sem, Nat.reduceEqDiff, ↓reduceIte, reduceCtorEq, Nat.reduceAdd, Nat.reduceMul, Int.reduceToNat, List.reduceReplicate, Nat.reduceLeDiff, Nat.reduceLT, Int.reduceLT, Int.reduceLE, Int.reduceEq] <;> rfl) | (with_reducible apply call (k2)); (focus simp (maxSteps := 900000) (disch := omega) only [go_sem, Nat.reduceEqDiff, ↓reduceIte, reduceCtorEq, Nat.reduceAdd, Nat.reduceMul, Int.reduceToNat, List.reduceReplicate, Nat.reduceLeDiff, Nat.reduceLT, Int.reduceLT, Int.reduceLE, Int.reduceEq] <;> rfl) | with_reducible refine pickB_f ?_ | with_reducible refine giv_intro fun _h => ?_ | with_reducible refine alt_intro ?_ fun _h => ?_ | with_reducible refine pickD_nil ?_ | (with_reducible refine brc (fun _h => ?_) fun _h => ?_) <;> first | (exfalso; omega) | simp only [decide_eq_false _h] | simp only [(_h : (_ : Bool) = _)] | simp only [decide_eq_true _h] | skip)
  (refine loopC hS [1, 2, 3, 7, 9] (by simp only [go_sem, Nat.reduceEqDiff, ↓reduceIte, reduceCtorEq, Nat.reduceAdd, Nat.reduceMul, Int.reduceToNat, List.reduceReplicate, Nat.reduceLeDiff, Nat.reduceLT, Int.reduceLT, Int.reduceLE, Int.reduceEq]; try rfl) (fun (i : Nat) => [(11, boolA ((x.take i).any fun u => decide (u = w))), (12, intA i)]) (fun (i : Nat) => [some (.row 37 1 [sl s]), none]) (fun (i : Nat) => i ≤ x.length) (fun (i : Nat) => x.length - i) (0) ?_ (by intro s; first | (simp only [List.length_cons, List.length_nil]; done) | rfl | (rcases s with ⟨_, _⟩; rfl) | (rcases s with ⟨_, _, _⟩; rfl) | (rcases s with ⟨_, _, _, _⟩; rfl) | (rcases s with ⟨_, _, _, _, _⟩; rfl)) ?_)
  · simp (maxSteps := 900000) (disch := omega) only [go_sem, Nat.reduceEqDiff, ↓reduceIte, reduceCtorEq, Nat.reduceAdd, Nat.reduceMul, Int.reduceToNat, List.reduceReplicate, Nat.reduceLeDiff, Nat.reduceLT, Int.reduceLT, Int.reduceLE, Int.reduceEq]
    exact ⟨Nat.zero_le _, rfl⟩
  rintro i hi
  replace hi : i ≤ x.length := hi
  by_cases hil : i < x.length
  · have h1 := hHarmony_ok s l (nth x i)
    rw [b1 _ (nth_mem hil)] at h1
    have s1 := Same_ok v v
    rw [decide_eq_true rfl] at s1
    have hc := Compare_ok (nth x (i - 1)) (nth x i)
    have s2 := Same_ok (nth x i) w
    have e1 : ((i : Int) - 1).toNat = i - 1 := by omega
    have hst : (x.take (i + 1)).any (fun u => decide (u = w)) = ((x.take i).any (fun u => decide (u = w)) || decide (nth x i = w)) := by
      rw [List.take_add_one, nth_get? hil]; simp
    generalize (x.take i).any (fun u => decide (u = w)) = b at *
    by_cases hi0 : 0 < i
    · have hlt : compL (nth x (i - 1)) (nth x i) < 0 := asc_nthC b2 (by omega) hil
      repeat' (first | with_reducible refine inw ?_ | simp (maxSteps := 900000) (disch := omega) only [go_sem, Nat.reduceEqDiff, ↓reduceIte, reduceCtorEq, Nat.reduceAdd, Nat.reduceMul, Int.reduceToNat, List.reduceReplicate, Nat.reduceLeDiff, Nat.reduceLT, Int.reduceLT, Int.reduceLE, Int.reduceEq, e1] | (with_reducible apply call_D (h1)); (focus simp (maxSteps := 900000) (disch := omega) only [go_sem, Nat.reduceEqDiff, ↓reduceIte, reduceCtorEq, Nat.reduceAdd, Nat.reduceMul, Int.reduceToNat, List.reduceReplicate, Nat.reduceLeDiff, Nat.reduceLT, Int.reduceLT, Int.reduceLE, Int.reduceEq, e1] <;> rfl) | (with_reducible apply call_D (s1)); (focus simp (maxSteps := 900000) (disch := omega) only [go_sem, Nat.reduceEqDiff, ↓reduceIte, reduceCtorEq, Nat.reduceAdd, Nat.reduceMul, Int.reduceToNat, List.reduceReplicate, Nat.reduceLeDiff, Nat.reduceLT, Int.reduceLT, Int.reduceLE, Int.reduceEq, e1] <;> rfl) | (with_reducible apply call_D (hc)); (focus simp (maxSteps := 900000) (disch := omega) only [go_sem, Nat.reduceEqDiff, ↓reduceIte, reduceCtorEq, Nat.reduceAdd, Nat.reduceMul, Int.reduceToNat, List.reduceReplicate, Nat.reduceLeDiff, Nat.reduceLT, Int.reduceLT, Int.reduceLE, Int.reduceEq, e1] <;> rfl) | (with_reducible apply call (s2)); (focus simp (maxSteps := 900000) (disch := omega) only [go_sem, Nat.reduceEqDiff, ↓reduceIte, reduceCtorEq, Nat.reduceAdd, Nat.reduceMul, Int.reduceToNat, List.reduceReplicate, Nat.reduceLeDiff, Nat.reduceLT, Int.reduceLT, Int.reduceLE, Int.reduceEq, e1] <;> rfl) | with_reducible refine pickB_f ?_ | with_reducible refine giv_intro fun _h => ?_ | with_reducible refine alt_intro ?_ fun _h => ?_ | with_reducible refine pickD_nil ?_ | (with_reducible refine brc (fun _h => ?_) fun _h => ?_) <;> first | (exfalso; omega) | simp only [decide_eq_false _h] | simp only [(_h : (_ : Bool) = _)] | simp only [decide_eq_true _h] | skip)
      · exact ⟨i + 1, ⟨by omega, by omega⟩, by rw [hst]; clear hst; cases b <;> first | rfl | simp_all, by omega⟩
      · exact ⟨i + 1, ⟨by omega, by omega⟩, by rw [hst]; clear hst; cases b <;> first | rfl | simp_all, by omega⟩
    · repeat' (first | with_reducible refine inw ?_ | simp (maxSteps := 900000) (disch := omega) only [go_sem, Nat.reduceEqDiff, ↓reduceIte, reduceCtorEq, Nat.reduceAdd, Nat.reduceMul, Int.reduceToNat, List.reduceReplicate, Nat.reduceLeDiff, Nat.reduceLT, Int.reduceLT, Int.reduceLE, Int.reduceEq, e1] | (with_reducible apply call_D (h1)); (focus simp (maxSteps := 900000) (disch := omega) only [go_sem, Nat.reduceEqDiff, ↓reduceIte, reduceCtorEq, Nat.reduceAdd, Nat.reduceMul, Int.reduceToNat, List.reduceReplicate, Nat.reduceLeDiff, Nat.reduceLT, Int.reduceLT, Int.reduceLE, Int.reduceEq, e1] <;> rfl) | (with_reducible apply call_D (s1)); (focus simp (maxSteps := 900000) (disch := omega) only [go_sem, Nat.reduceEqDiff, ↓reduceIte, reduceCtorEq, Nat.reduceAdd, Nat.reduceMul, Int.reduceToNat, List.reduceReplicate, Nat.reduceLeDiff, Nat.reduceLT, Int.reduceLT, Int.reduceLE, Int.reduceEq, e1] <;> rfl) | (with_reducible apply call_D (hc)); (focus simp (maxSteps := 900000) (disch := omega) only [go_sem, Nat.reduceEqDiff, ↓reduceIte, reduceCtorEq, Nat.reduceAdd, Nat.reduceMul, Int.reduceToNat, List.reduceReplicate, Nat.reduceLeDiff, Nat.reduceLT, Int.reduceLT, Int.reduceLE, Int.reduceEq, e1] <;> rfl) | (with_reducible apply call (s2)); (focus simp (maxSteps := 900000) (disch := omega) only [go_sem, Nat.reduceEqDiff, ↓reduceIte, reduceCtorEq, Nat.reduceAdd, Nat.reduceMul, Int.reduceToNat, List.reduceReplicate, Nat.reduceLeDiff, Nat.reduceLT, Int.reduceLT, Int.reduceLE, Int.reduceEq, e1] <;> rfl) | with_reducible refine pickB_f ?_ | with_reducible refine giv_intro fun _h => ?_ | with_reducible refine alt_intro ?_ fun _h => ?_ | with_reducible refine pickD_nil ?_ | (with_reducible refine brc (fun _h => ?_) fun _h => ?_) <;> first | (exfalso; omega) | simp only [decide_eq_false _h] | simp only [(_h : (_ : Bool) = _)] | simp only [decide_eq_true _h] | skip)
      · exact ⟨i + 1, ⟨by omega, by omega⟩, by rw [hst]; clear hst; cases b <;> first | rfl | simp_all, by omega⟩
      · exact ⟨i + 1, ⟨by omega, by omega⟩, by rw [hst]; clear hst; cases b <;> first | rfl | simp_all, by omega⟩
  · rw [List.take_of_length_le (by omega)]
    have : x.any (fun u => decide (u = w)) = true := List.any_eq_true.2 ⟨w, b3, decide_eq_true rfl⟩
    rw [this]
    repeat' (first | with_reducible refine inw ?_ | simp (maxSteps := 900000) (disch := omega) only [go_sem, Nat.reduceEqDiff, ↓reduceIte, reduceCtorEq, Nat.reduceAdd, Nat.reduceMul, Int.reduceToNat, List.reduceReplicate, Nat.reduceLeDiff, Nat.reduceLT, Int.reduceLT, Int.reduceLE, Int.reduceEq] | (with_reducible apply call (known_ok)); (focus simp (maxSteps := 900000) (disch := omega) only [go_sem, Nat.reduceEqDiff, ↓reduceIte, reduceCtorEq, Nat.reduceAdd, Nat.reduceMul, Int.reduceToNat, List.reduceReplicate, Nat.reduceLeDiff, Nat.reduceLT, Int.reduceLT, Int.reduceLE, Int.reduceEq] <;> rfl) | with_reducible refine pickB_f ?_ | with_reducible refine giv_intro fun _h => ?_ | with_reducible refine alt_intro ?_ fun _h => ?_ | with_reducible refine pickD_nil ?_ | (with_reducible refine brc (fun _h => ?_) fun _h => ?_) <;> first | (exfalso; omega) | simp only [decide_eq_false _h] | simp only [(_h : (_ : Bool) = _)] | simp only [decide_eq_true _h] | skip)
    all_goals skip
end Go.Proofs.Ytpfoflhhbkjngaa.Ev

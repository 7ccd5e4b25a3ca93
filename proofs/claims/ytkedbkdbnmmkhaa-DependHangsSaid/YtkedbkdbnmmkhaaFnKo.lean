/- The reference hangs nodes by hooks: the law DependHangs. -/
import Derived.Test.YtkedbkdbnmmkhaaFnKn
import Derived.Test.YtkedbkdbnmmkhaaFnKm
set_option linter.unusedVariables false
set_option linter.unusedSimpArgs false
namespace Go.Proofs.Ytkedbkdbnmmkhaa.Ev
open Go Go.Proofs

theorem parF_far (h : Hook) (l : List Hung) (i : Nat) (hi : i < l.length) : ∀ (n : Nat) (far : Int) (a b : Bool), (l.length : Int) ≤ far → parF h l i n far a b = -1
  | 0, far, a, b, _ => rfl
  | n + 1, far, a, b, hf => by
    have h1 : skipP l a (i - far) = true := by rw [skipP, decide_eq_true (p := (i : Int) - far < 0) (by omega)]; simp
    have h2 : skipP l b (i + far) = true := by rw [skipP, decide_eq_true (p := (l.length : Int) ≤ i + far) (by omega)]; simp
    rw [parF, if_neg (by rw [hitP, h1]; simp), if_neg (by rw [hitP, h2]; simp)]
    exact parF_far h l i hi n _ _ _ (by omega)
/-- ablaut/ablautref21.parent: 3 parameters, 0 captured -/
def s48 : SC := .seq (.reg [o1 3 (.box 57 6 (.t 0)),
   o1 6 (.mv (cI 0))])
  (.seq (.reg [o1 12 (.faddr 3 (.t 3)),
    o1 13 (.load none (.t 12)),
    o1 14 (.bin .eql (.t 13) (cI 1)),
    o1 15 (.faddr 3 (.t 3)),
    o1 16 (.load none (.t 15)),
    o1 17 (.bin .eql (.t 16) (cI (-1))),
    o1 18 (.build [(.bool false), (.bool false)] [(0, 1, (.t 14)), (1, 1, (.t 17))]),
    o1 7 (.alloc 82 2 [(.bool false), (.bool false)]),
    o0 (.store 2 (.t 7) (.t 18))])
   (.seq (.seq (.reg [o1 8 (.mv (cI 1))])
     (.block 0 (.loop (.seq (.seq (.reg [o1 19 (.mv (.t 8)),
          o1 20 (.faddr 4 (.t 3)),
          o1 21 (.load none (.t 20)),
          o1 22 (.bin .leq (.t 19) (.t 21)),
          o1 23 (.mv (.t 22)),
          oT 24 (.mv (.t 8)) 23,
          oT 25 (.mv (.t 1)) 23,
          oT 26 (.lenL (.t 25)) 23,
          oT 27 (.bin .lss (.t 24) (.t 26)) 23,
          o1 28 (.pick (.t 23) (.t 27) (cB false))])
         (.cond (.t 28) (.skip) (.exit 0)))
        (.seq (.block 1 (.seq (.reg [o1 31 (.mv (.t 2)),
            o1 32 (.mv (.t 8)),
            o1 33 (.bin .sub (.t 31) (.t 32)),
            o1 34 (.mv (.t 2)),
            o1 35 (.mv (.t 8)),
            o1 36 (.bin .add (.t 34) (.t 35)),
            o1 37 (.build [(.int .i64 0), (.int .i64 0)] [(0, 1, (.t 33)), (1, 1, (.t 36))]),
            o1 9 (.alloc 51 2 [(.int .i64 0), (.int .i64 0)]),
            o0 (.store 2 (.t 9) (.t 37))])
           (.seq (.reg [o1 10 (.mv (cI 0))])
            (.block 2 (.loop (.seq (.seq (.reg [o1 38 (.mv (.t 10)),
                 o1 39 (.bin .lss (.t 38) (cI 2))])
                (.cond (.t 39) (.skip) (.exit 2)))
               (.seq (.block 3 (.seq (.reg [o1 42 (.mv (.t 10)),
                   o1 43 (.iaddrA 2 1 (.t 9) (.t 42)),
                   o1 44 (.load none (.t 43)),
                   o1 11 (.mv (.t 44))])
                  (.seq (.seq (.reg [o1 45 (.mv (.t 10)),
                     o1 46 (.iaddrA 2 1 (.t 7) (.t 45)),
                     o1 47 (.load none (.t 46)),
                     o1 48 (.mv (.t 47)),
                     oF 49 (.mv (.t 11)) 48,
                     oF 50 (.bin .lss (.t 49) (cI 0)) 48,
                     o1 51 (.pick (.t 48) (cB true) (.t 50)),
                     o1 52 (.mv (.t 51)),
                     oF 53 (.mv (.t 11)) 52,
                     oF 54 (.mv (.t 1)) 52,
                     oF 55 (.lenL (.t 54)) 52,
                     oF 56 (.bin .geq (.t 53) (.t 55)) 52,
                     o1 57 (.pick (.t 52) (cB true) (.t 56))])
                    (.cond (.t 57) (.exit 3) (.skip)))
                   (.seq (.seq (.regD [o1 58 (.faddr 1 (.t 3)),
                      o1 59 (.load none (.t 58)),
                      o1 60 (.mv (.t 1)),
                      o1 61 (.mv (.t 11)),
                      o1 62 (.iaddr 3 (.t 60) (.t 61)),
                      o1 63 (.faddr 0 (.t 62)),
                      o1 64 (.load none (.t 63)),
                      o1 65 (.call (.f 47) [(.t 59), (.t 64)]),
                      o1 66 (.mv (.t 65)),
                      oT 67 (.mv (.t 1)) 66,
                      oT 68 (.mv (.t 11)) 66,
                      oT 69 (.mv (.t 2)) 66,
                      oT 70 (.call (.f 61) [(.t 67), (.t 68), (.t 69)]) 66,
                      oT 71 (.un .not (.t 70)) 66,
                      o1 72 (.pick (.t 66) (.t 71) (cB false))])
                     (.cond (.t 72) (.seq (.reg [o1 73 (.mv (.t 11)),
                        o1 6 (.mv (.t 73))])
                       (.ret)) (.skip)))
                    (.regE [o1 74 (.mv (.t 10)),
                     o1 75 (.faddr 2 (.t 3)),
                     o1 76 (.load none (.t 75)),
                     o1 77 (.lenL (.t 76)),
                     o1 78 (.bin .gtr (.t 77) (cI 0)),
                     o1 79 (.mv (.t 78)),
                     oT 80 (.faddr 2 (.t 3)) 79,
                     oT 81 (.load none (.t 80)) 79,
                     oT 82 (.mv (.t 1)) 79,
                     oT 83 (.mv (.t 11)) 79,
                     oT 84 (.iaddr 3 (.t 82) (.t 83)) 79,
                     oT 85 (.faddr 0 (.t 84)) 79,
                     oT 86 (.load none (.t 85)) 79,
                     oT 87 (.call (.f 47) [(.t 81), (.t 86)]) 79,
                     o1 88 (.pick (.t 79) (.t 87) (cB false)),
                     o1 89 (.iaddrA 2 1 (.t 7) (.t 74)),
                     o0 (.store 1 (.t 89) (.t 88))])))))
                (.reg [o1 40 (.mv (.t 10)),
                 o1 41 (.bin .add (.t 40) (cI 1)),
                 o1 10 (.mv (.t 41))]))))))))
         (.reg [o1 29 (.mv (.t 8)),
          o1 30 (.bin .add (.t 29) (cI 1)),
          o1 8 (.mv (.t 30))]))))))
    (.seq (.reg [o1 6 (.mv (cI (-1)))])
     (.ret))))
theorem s48_ok : lookF Try.prog 48 = some (s48, 90, [.tmp 6]) := by kernel_rfl
set_option maxHeartbeats 2000000 in
theorem rParent_ok (l : List Hung) (hl : Hds l) (hlen : l.length ≤ 200) (i : Nat) (hi : i < l.length) (h : Hook) (hm : 1 ≤ h.2.2.2.2.1 ∧ h.2.2.2.2.1 ≤ 200) (hsd : -1 ≤ h.2.2.2.1 ∧ h.2.2.2.1 ≤ 1) : Fn P 48 [hookA h, sl l, intA i] (intA (parI h l i)) := by
  (refine fn_look s48_ok (by simp) (by intro k; simp only [go_sem, Nat.reduceEqDiff, ↓reduceIte, reduceCtorEq, Nat.reduceAdd, Nat.reduceMul, Int.reduceToNat, List.reduceReplicate, Nat.reduceLeDiff, Nat.reduceLT, Int.reduceLT, Int.reduceLE, Int.reduceEq]) fun S hS => cwp_sound _ _ _ _ ?_; simp (disch := omega) only [s48, go_sem, Nat.reduceEqDiff, ↓reduceIte, reduceCtorEq, Nat.reduceAdd, Nat.reduceMul, Int.reduceToNat, List.reduceReplicate, Nat.reduceLeDiff, Nat.reduceLT, Int.reduceLT, Int.reduceLE, Int.reduceEq])
  repeat' (first | with_reducible refine inw ?_ | simp (disch := omega) only [go_sem, Nat.reduceEqDiff, ↓reduceIte, reduceCtorEq, Nat.reduceAdd, Nat.reduceMul, Int.reduceToNat, List.reduceReplicate, Nat.reduceLeDiff, Nat.reduceLT, Int.reduceLT, Int.reduceLE, Int.reduceEq] | with_reducible refine giv_intro fun _h => ?_ | with_reducible refine alt_intro ?_ fun _h => ?_ | with_reducible refine pickD_nil ?_ | (with_reducible refine brc (fun _h => ?_) fun _h => ?_) <;> first | (exfalso; omega) | simp only [decide_eq_false _h] | simp only [(_h : (_ : Bool) = _)] | simp only [decide_eq_true _h] | skip)
  (refine loopC hS [1, 2, 3, 7] (by simp only [go_sem, Nat.reduceEqDiff, ↓reduceIte, reduceCtorEq, Nat.reduceAdd, Nat.reduceMul, Int.reduceToNat, List.reduceReplicate, Nat.reduceLeDiff, Nat.reduceLT, Int.reduceLT, Int.reduceLE, Int.reduceEq]; try rfl) (fun (⟨n, far, a, b⟩ : Nat × Nat × Bool × Bool) => [(8, intA far)]) (fun (⟨n, far, a, b⟩ : Nat × Nat × Bool × Bool) => [some (.row 57 6 [sl h.1, sl h.2.1, sl h.2.2.1, intA h.2.2.2.1, intA h.2.2.2.2.1, strA h.2.2.2.2.2]), some (.row 82 2 [boolA (!a), boolA (!b)])]) (fun (⟨n, far, a, b⟩ : Nat × Nat × Bool × Bool) => (n : Int) + far = h.2.2.2.2.1 + 1 ∧ 1 ≤ far ∧ parI h l i = parF h l i n far a b) (fun (⟨n, far, a, b⟩ : Nat × Nat × Bool × Bool) => n) ((h.2.2.2.2.1.toNat, 1, decide (h.2.2.2.1 ≤ 0), decide (0 ≤ h.2.2.2.1))) ?h01 ?hn1 ?rd1; case hn1 => (intro s; first | rfl | (rcases s with ⟨_, _⟩; rfl) | (rcases s with ⟨_, _, _⟩; rfl) | (rcases s with ⟨_, _, _, _⟩; rfl) | (rcases s with ⟨_, _, _, _, _⟩; rfl)))
  · simp (disch := omega) only [go_sem, Nat.reduceEqDiff, ↓reduceIte, reduceCtorEq, Nat.reduceAdd, Nat.reduceMul, Int.reduceToNat, List.reduceReplicate, Nat.reduceLeDiff, Nat.reduceLT, Int.reduceLT, Int.reduceLE, Int.reduceEq]
    refine ⟨⟨by omega, rfl⟩, ?_⟩
    have e1 : decide (h.2.2.2.1 = 1) = !decide (h.2.2.2.1 ≤ 0) := by
      by_cases e : h.2.2.2.1 = 1
      · rw [decide_eq_true e, decide_eq_false (by omega)]; rfl
      · rw [decide_eq_false e, decide_eq_true (by omega)]; rfl
    have e2 : decide (h.2.2.2.1 = -1) = !decide (0 ≤ h.2.2.2.1) := by
      by_cases e : h.2.2.2.1 = -1
      · rw [decide_eq_true e, decide_eq_false (by omega)]; rfl
      · rw [decide_eq_false e, decide_eq_true (by omega)]; rfl
    rw [e1, e2]
  rintro ⟨n, far, a, b⟩ ⟨hn, hf, hI⟩
  replace hn : (n : Int) + far = h.2.2.2.2.1 + 1 := hn
  replace hf : 1 ≤ far := hf
  replace hI : parI h l i = parF h l i n far a b := hI
  cases n with
  | zero =>
    rw [parF] at hI
    rw [hI]
    repeat' (first | with_reducible refine inw ?_ | simp (disch := omega) only [go_sem, Nat.reduceEqDiff, ↓reduceIte, reduceCtorEq, Nat.reduceAdd, Nat.reduceMul, Int.reduceToNat, List.reduceReplicate, Nat.reduceLeDiff, Nat.reduceLT, Int.reduceLT, Int.reduceLE, Int.reduceEq] | with_reducible refine giv_intro fun _h => ?_ | with_reducible refine alt_intro ?_ fun _h => ?_ | with_reducible refine pickD_nil ?_ | (with_reducible refine brc (fun _h => ?_) fun _h => ?_) <;> first | (exfalso; omega) | simp only [decide_eq_false _h] | simp only [(_h : (_ : Bool) = _)] | simp only [decide_eq_true _h] | skip)
    all_goals (exfalso; omega)
  | succ n =>
    by_cases hfl : (l.length : Int) ≤ far
    · rw [parF_far h l i hi _ _ _ _ hfl] at hI
      rw [hI]
      repeat' (first | with_reducible refine inw ?_ | simp (disch := omega) only [go_sem, Nat.reduceEqDiff, ↓reduceIte, reduceCtorEq, Nat.reduceAdd, Nat.reduceMul, Int.reduceToNat, List.reduceReplicate, Nat.reduceLeDiff, Nat.reduceLT, Int.reduceLT, Int.reduceLE, Int.reduceEq] | with_reducible refine giv_intro fun _h => ?_ | with_reducible refine alt_intro ?_ fun _h => ?_ | with_reducible refine pickD_nil ?_ | (with_reducible refine brc (fun _h => ?_) fun _h => ?_) <;> first | (exfalso; omega) | simp only [decide_eq_false _h] | simp only [(_h : (_ : Bool) = _)] | simp only [decide_eq_true _h] | skip)
    rw [parF] at hI
    have ei : (((n + 1 : Nat) : Int)) = n + 1 := by omega
    repeat' (first | with_reducible refine inw ?_ | simp (disch := omega) only [go_sem, Nat.reduceEqDiff, ↓reduceIte, reduceCtorEq, Nat.reduceAdd, Nat.reduceMul, Int.reduceToNat, List.reduceReplicate, Nat.reduceLeDiff, Nat.reduceLT, Int.reduceLT, Int.reduceLE, Int.reduceEq] | with_reducible refine giv_intro fun _h => ?_ | with_reducible refine alt_intro ?_ fun _h => ?_ | with_reducible refine pickD_nil ?_ | (with_reducible refine brc (fun _h => ?_) fun _h => ?_) <;> first | (exfalso; omega) | simp only [decide_eq_false _h] | simp only [(_h : (_ : Bool) = _)] | simp only [decide_eq_true _h] | skip)
    (refine loopC hS [1, 2, 3, 7, 8, 9] (by simp only [go_sem, Nat.reduceEqDiff, ↓reduceIte, reduceCtorEq, Nat.reduceAdd, Nat.reduceMul, Int.reduceToNat, List.reduceReplicate, Nat.reduceLeDiff, Nat.reduceLT, Int.reduceLT, Int.reduceLE, Int.reduceEq]; try rfl) (fun (⟨j, a1, b1⟩ : Nat × Bool × Bool) => [(10, intA j)]) (fun (⟨j, a1, b1⟩ : Nat × Bool × Bool) => [some (.row 57 6 [sl h.1, sl h.2.1, sl h.2.2.1, intA h.2.2.2.1, intA h.2.2.2.2.1, strA h.2.2.2.2.2]), some (.row 82 2 [boolA (!a1), boolA (!b1)]), some (.row 51 2 [intA (i - far), intA (i + far)])]) (fun (⟨j, a1, b1⟩ : Nat × Bool × Bool) => (j = 0 ∧ a1 = a ∧ b1 = b) ∨ (j = 1 ∧ b1 = b ∧ parI h l i = if hitP h l i b (i + far) = true then (i : Int) + far else parF h l i n (far + 1) a1 (openP h l b (i + far))) ∨ (j = 2 ∧ parI h l i = parF h l i n (far + 1) a1 b1)) (fun (⟨j, a1, b1⟩ : Nat × Bool × Bool) => 2 - j) ((0, a, b)) ?h02 ?hn2 ?rd2; case hn2 => (intro s; first | rfl | (rcases s with ⟨_, _⟩; rfl) | (rcases s with ⟨_, _, _⟩; rfl) | (rcases s with ⟨_, _, _, _⟩; rfl) | (rcases s with ⟨_, _, _, _, _⟩; rfl)))
    · simp (disch := omega) only [go_sem, Nat.reduceEqDiff, ↓reduceIte, reduceCtorEq, Nat.reduceAdd, Nat.reduceMul, Int.reduceToNat, List.reduceReplicate, Nat.reduceLeDiff, Nat.reduceLT, Int.reduceLT, Int.reduceLE, Int.reduceEq]
      simp
    rintro ⟨j, a1, b1⟩ hJ
    replace hJ : (j = 0 ∧ a1 = a ∧ b1 = b) ∨ (j = 1 ∧ b1 = b ∧ parI h l i = if hitP h l i b (i + far) = true then (i : Int) + far else parF h l i n (far + 1) a1 (openP h l b (i + far))) ∨ (j = 2 ∧ parI h l i = parF h l i n (far + 1) a1 b1) := hJ
    rcases hJ with ⟨rfl, rfl, rfl⟩ | ⟨rfl, rfl, hJ⟩ | ⟨rfl, hJ⟩
    · by_cases hs : a1 = true ∧ 0 ≤ (i : Int) - far ∧ (i : Int) - far < l.length
      · obtain ⟨rfl, h1, h2⟩ := hs
        have hsk : skipP l true (i - far) = false := by
          rw [skipP, decide_eq_false (by omega), decide_eq_false (by omega)]; rfl
        have c1 := rIs_ok h.2.1 (nth l ((i : Int) - far).toNat).1
        have c2 := rHangs_ok l hl (by omega) ((i : Int) - far) i h2
        have c3 := rIs_ok h.2.2.1 (nth l ((i : Int) - far).toNat).1
        have hh : hitP h l i true (i - far) = (hasB (nth l ((i : Int) - far).toNat).1 h.2.1 && !hgB l ((i : Int) - far) i) := by rw [hitP, hsk]; rfl
        have ho : openP h l true (i - far) = (decide (h.2.2.1.length = 0) || !hasB (nth l ((i : Int) - far).toNat).1 h.2.2.1) := by rw [openP, if_neg (by rw [hsk]; simp)]
        have hit : hasB (nth l ((i : Int) - far).toNat).1 h.2.1 = true → hgB l ((i : Int) - far) i = false → (i : Int) - far = parI h l i := fun q1 q2 => by rw [hI, if_pos (by rw [hh, q1, q2]; rfl)]
        have miss1 : hasB (nth l ((i : Int) - far).toNat).1 h.2.1 = false → hitP h l i true ((i : Int) - far) = false := fun e => by rw [hh, e]; rfl
        have miss2 : hgB l ((i : Int) - far) i = true → hitP h l i true ((i : Int) - far) = false := fun e => by rw [hh, e, Bool.not_true, Bool.and_false]
        have ho1 : h.2.2.1.length = 0 → openP h l true ((i : Int) - far) = true := fun e => by rw [ho, decide_eq_true e]; rfl
        have ho2 : ¬h.2.2.1.length = 0 → openP h l true ((i : Int) - far) = !hasB (nth l ((i : Int) - far).toNat).1 h.2.2.1 := fun e => by rw [ho, decide_eq_false e]; rfl
        repeat' (first | with_reducible refine inw ?_ | simp (disch := omega) only [go_sem, Nat.reduceEqDiff, ↓reduceIte, reduceCtorEq, Nat.reduceAdd, Nat.reduceMul, Int.reduceToNat, List.reduceReplicate, Nat.reduceLeDiff, Nat.reduceLT, Int.reduceLT, Int.reduceLE, Int.reduceEq] | (with_reducible apply call_D (c1)); (focus simp (disch := omega) only [go_sem, Nat.reduceEqDiff, ↓reduceIte, reduceCtorEq, Nat.reduceAdd, Nat.reduceMul, Int.reduceToNat, List.reduceReplicate, Nat.reduceLeDiff, Nat.reduceLT, Int.reduceLT, Int.reduceLE, Int.reduceEq] <;> rfl) | (with_reducible apply call_D (c2)); (focus simp (disch := omega) only [go_sem, Nat.reduceEqDiff, ↓reduceIte, reduceCtorEq, Nat.reduceAdd, Nat.reduceMul, Int.reduceToNat, List.reduceReplicate, Nat.reduceLeDiff, Nat.reduceLT, Int.reduceLT, Int.reduceLE, Int.reduceEq] <;> rfl) | (with_reducible apply call_D (c3)); (focus simp (disch := omega) only [go_sem, Nat.reduceEqDiff, ↓reduceIte, reduceCtorEq, Nat.reduceAdd, Nat.reduceMul, Int.reduceToNat, List.reduceReplicate, Nat.reduceLeDiff, Nat.reduceLT, Int.reduceLT, Int.reduceLE, Int.reduceEq] <;> rfl) | with_reducible refine giv_intro fun _h => ?_ | with_reducible refine alt_intro ?_ fun _h => ?_ | with_reducible refine pickD_nil ?_ | (with_reducible refine brc (fun _h => ?_) fun _h => ?_) <;> first | (exfalso; omega) | simp only [decide_eq_false _h] | simp only [(_h : (_ : Bool) = _)] | simp only [decide_eq_true _h] | skip)
        all_goals first
          | exact hit (by assumption) (by assumption)
          | (refine ⟨(1, openP h l true ((i : Int) - far), b1), ⟨by omega, .inr (.inl ⟨rfl, rfl, by rw [hI, if_neg (by rw [show hitP h l i true ((i : Int) - far) = false by first | exact miss1 (by assumption) | exact miss2 (by assumption)]; simp)]⟩)⟩, rfl, ?_⟩
             first | (rw [ho1 (by omega)]; rfl) | (rw [ho2 (by omega), Bool.not_not])) 
      · have hsk : skipP l a1 (i - far) = true := by
          rw [skipP, Bool.or_eq_true, Bool.or_eq_true, Bool.not_eq_true', decide_eq_true_eq, decide_eq_true_eq]
          by_cases h1 : a1 = true
          · exact .inr (by have := not_and.1 hs h1; omega)
          · exact .inl (by simpa using h1)
        have hm1 : hitP h l i a1 (i - far) = false := by rw [hitP, hsk]; rfl
        have ho1 : openP h l a1 (i - far) = a1 := by rw [openP, if_pos hsk]
        repeat' (first | with_reducible refine inw ?_ | simp (disch := omega) only [go_sem, Nat.reduceEqDiff, ↓reduceIte, reduceCtorEq, Nat.reduceAdd, Nat.reduceMul, Int.reduceToNat, List.reduceReplicate, Nat.reduceLeDiff, Nat.reduceLT, Int.reduceLT, Int.reduceLE, Int.reduceEq] | with_reducible refine giv_intro fun _h => ?_ | with_reducible refine alt_intro ?_ fun _h => ?_ | with_reducible refine pickD_nil ?_ | (with_reducible refine brc (fun _h => ?_) fun _h => ?_) <;> first | (exfalso; omega) | simp only [decide_eq_false _h] | simp only [(_h : (_ : Bool) = _)] | simp only [decide_eq_true _h] | skip)
        all_goals first
          | exact absurd ⟨by assumption, by omega, by omega⟩ hs
          | (refine ⟨(1, openP h l a1 (i - far), b1), ⟨by omega, .inr (.inl ⟨rfl, rfl, by rw [hI, if_neg (by rw [hm1]; simp)]⟩)⟩, rfl, ?_⟩
             rw [ho1]
             first | done | (rw [show a1 = _ by assumption]; rfl))
    · by_cases hs : b1 = true ∧ (i : Int) + far < l.length
      · obtain ⟨rfl, h2⟩ := hs
        have hsk : skipP l true (i + far) = false := by
          rw [skipP, decide_eq_false (by omega), decide_eq_false (by omega)]; rfl
        have c1 := rIs_ok h.2.1 (nth l ((i : Int) + far).toNat).1
        have c2 := rHangs_ok l hl (by omega) ((i : Int) + far) i h2
        have c3 := rIs_ok h.2.2.1 (nth l ((i : Int) + far).toNat).1
        have hh : hitP h l i true (i + far) = (hasB (nth l ((i : Int) + far).toNat).1 h.2.1 && !hgB l ((i : Int) + far) i) := by rw [hitP, hsk]; rfl
        have ho : openP h l true (i + far) = (decide (h.2.2.1.length = 0) || !hasB (nth l ((i : Int) + far).toNat).1 h.2.2.1) := by rw [openP, if_neg (by rw [hsk]; simp)]
        have hit : hasB (nth l ((i : Int) + far).toNat).1 h.2.1 = true → hgB l ((i : Int) + far) i = false → (i : Int) + far = parI h l i := fun q1 q2 => by rw [hJ, if_pos (by rw [hh, q1, q2]; rfl)]
        have miss1 : hasB (nth l ((i : Int) + far).toNat).1 h.2.1 = false → hitP h l i true ((i : Int) + far) = false := fun e => by rw [hh, e]; rfl
        have miss2 : hgB l ((i : Int) + far) i = true → hitP h l i true ((i : Int) + far) = false := fun e => by rw [hh, e, Bool.not_true, Bool.and_false]
        have ho1 : h.2.2.1.length = 0 → openP h l true ((i : Int) + far) = true := fun e => by rw [ho, decide_eq_true e]; rfl
        have ho2 : ¬h.2.2.1.length = 0 → openP h l true ((i : Int) + far) = !hasB (nth l ((i : Int) + far).toNat).1 h.2.2.1 := fun e => by rw [ho, decide_eq_false e]; rfl
        repeat' (first | with_reducible refine inw ?_ | simp (disch := omega) only [go_sem, Nat.reduceEqDiff, ↓reduceIte, reduceCtorEq, Nat.reduceAdd, Nat.reduceMul, Int.reduceToNat, List.reduceReplicate, Nat.reduceLeDiff, Nat.reduceLT, Int.reduceLT, Int.reduceLE, Int.reduceEq] | (with_reducible apply call_D (c1)); (focus simp (disch := omega) only [go_sem, Nat.reduceEqDiff, ↓reduceIte, reduceCtorEq, Nat.reduceAdd, Nat.reduceMul, Int.reduceToNat, List.reduceReplicate, Nat.reduceLeDiff, Nat.reduceLT, Int.reduceLT, Int.reduceLE, Int.reduceEq] <;> rfl) | (with_reducible apply call_D (c2)); (focus simp (disch := omega) only [go_sem, Nat.reduceEqDiff, ↓reduceIte, reduceCtorEq, Nat.reduceAdd, Nat.reduceMul, Int.reduceToNat, List.reduceReplicate, Nat.reduceLeDiff, Nat.reduceLT, Int.reduceLT, Int.reduceLE, Int.reduceEq] <;> rfl) | (with_reducible apply call_D (c3)); (focus simp (disch := omega) only [go_sem, Nat.reduceEqDiff, ↓reduceIte, reduceCtorEq, Nat.reduceAdd, Nat.reduceMul, Int.reduceToNat, List.reduceReplicate, Nat.reduceLeDiff, Nat.reduceLT, Int.reduceLT, Int.reduceLE, Int.reduceEq] <;> rfl) | with_reducible refine giv_intro fun _h => ?_ | with_reducible refine alt_intro ?_ fun _h => ?_ | with_reducible refine pickD_nil ?_ | (with_reducible refine brc (fun _h => ?_) fun _h => ?_) <;> first | (exfalso; omega) | simp only [decide_eq_false _h] | simp only [(_h : (_ : Bool) = _)] | simp only [decide_eq_true _h] | skip)
        all_goals first
          | exact hit (by assumption) (by assumption)
          | (refine ⟨(2, a1, openP h l true ((i : Int) + far)), ⟨by omega, .inr (.inr ⟨rfl, by rw [hJ, if_neg (by rw [show hitP h l i true ((i : Int) + far) = false by first | exact miss1 (by assumption) | exact miss2 (by assumption)]; simp)]⟩)⟩, rfl, ?_⟩
             first | (rw [ho1 (by omega)]; rfl) | (rw [ho2 (by omega), Bool.not_not])) 
      · have hsk : skipP l b1 (i + far) = true := by
          rw [skipP, Bool.or_eq_true, Bool.or_eq_true, Bool.not_eq_true', decide_eq_true_eq, decide_eq_true_eq]
          by_cases h1 : b1 = true
          · exact .inr (by have := not_and.1 hs h1; omega)
          · exact .inl (by simpa using h1)
        have hm1 : hitP h l i b1 (i + far) = false := by rw [hitP, hsk]; rfl
        have ho1 : openP h l b1 (i + far) = b1 := by rw [openP, if_pos hsk]
        repeat' (first | with_reducible refine inw ?_ | simp (disch := omega) only [go_sem, Nat.reduceEqDiff, ↓reduceIte, reduceCtorEq, Nat.reduceAdd, Nat.reduceMul, Int.reduceToNat, List.reduceReplicate, Nat.reduceLeDiff, Nat.reduceLT, Int.reduceLT, Int.reduceLE, Int.reduceEq] | with_reducible refine giv_intro fun _h => ?_ | with_reducible refine alt_intro ?_ fun _h => ?_ | with_reducible refine pickD_nil ?_ | (with_reducible refine brc (fun _h => ?_) fun _h => ?_) <;> first | (exfalso; omega) | simp only [decide_eq_false _h] | simp only [(_h : (_ : Bool) = _)] | simp only [decide_eq_true _h] | skip)
        all_goals first
          | exact absurd ⟨by assumption, by omega⟩ hs
          | (refine ⟨(2, a1, openP h l b1 (i + far)), ⟨by omega, .inr (.inr ⟨rfl, by rw [hJ, if_neg (by rw [hm1]; simp)]⟩)⟩, rfl, ?_⟩
             rw [ho1]
             first | done | (rw [show b1 = _ by assumption]; rfl))
    · repeat' (first | with_reducible refine inw ?_ | simp (disch := omega) only [go_sem, Nat.reduceEqDiff, ↓reduceIte, reduceCtorEq, Nat.reduceAdd, Nat.reduceMul, Int.reduceToNat, List.reduceReplicate, Nat.reduceLeDiff, Nat.reduceLT, Int.reduceLT, Int.reduceLE, Int.reduceEq] | with_reducible refine giv_intro fun _h => ?_ | with_reducible refine alt_intro ?_ fun _h => ?_ | with_reducible refine pickD_nil ?_ | (with_reducible refine brc (fun _h => ?_) fun _h => ?_) <;> first | (exfalso; omega) | simp only [decide_eq_false _h] | simp only [(_h : (_ : Bool) = _)] | simp only [decide_eq_true _h] | skip)
      refine ⟨(n, far + 1, a1, b1), ?_⟩
      dsimp only
      exact ⟨⟨by omega, by omega, by omega, hJ⟩, by omega, rfl⟩
theorem take_nth {α : Type} {k : Nat} [Enc α k] {l : List α} {i : Nat} (h : i < l.length) : l.take (i + 1) = l.take i ++ [nth l i] := by
  rw [nth_eq h, List.take_succ_eq_append_getElem h]
theorem z3_hung : zcells [Value.slice none 0 0, Value.int IntKind.i64 0, Value.string ⟨#[]⟩] 3 = [.sc (.slice none 0 0), intA 0, strA ⟨#[]⟩] := rfl
theorem src_three (S : St) (x y z : AV) : srcOf S 3 (.ro 1 [x, y, z]) = some (1, [x, y, z]) := by simp [srcOf]
/-- ablaut/ablautref21.copied: 1 parameters, 0 captured -/
def s46 : SC := .seq (.reg [o1 2 (.mv (.c (.slice none 0 0)))])
  (.seq (.reg [o1 3 (.mv (.c (.slice none 0 0)))])
   (.seq (.seq (.reg [o1 4 (.mv (cI 0))])
     (.block 0 (.loop (.seq (.seq (.reg [o1 5 (.mv (.t 4)),
          o1 6 (.mv (.t 0)),
          o1 7 (.lenL (.t 6)),
          o1 8 (.bin .lss (.t 5) (.t 7))])
         (.cond (.t 8) (.skip) (.exit 0)))
        (.seq (.block 1 (.regG [(true, o1 11 (.mv (.t 3))),
           (true, o1 13 (.mv (.t 0))),
           (true, o1 14 (.mv (.t 4))),
           (true, o1 15 (.iaddr 3 (.t 13) (.t 14))),
           (true, o1 16 (.faddr 0 (.t 15))),
           (true, o1 17 (.load none (.t 16))),
           (true, o1 19 (.mv (.t 0))),
           (true, o1 20 (.mv (.t 4))),
           (true, o1 21 (.iaddr 3 (.t 19) (.t 20))),
           (true, o1 22 (.faddr 1 (.t 21))),
           (true, o1 23 (.load none (.t 22))),
           (true, o1 24 (.mv (.t 0))),
           (true, o1 25 (.mv (.t 4))),
           (true, o1 26 (.iaddr 3 (.t 24) (.t 25))),
           (true, o1 27 (.faddr 2 (.t 26))),
           (true, o1 28 (.load none (.t 27))),
           (true, o1 12 (.buildSl 9 1 0 [(.string ⟨#[]⟩)] [])),
           (true, o1 18 (.app 9 1 16 (.t 12) (.t 17))),
           (false, o1 29 (.build [(.slice none 0 0), (.int .i64 0), (.string ⟨#[]⟩)] [(0, 1, (.t 18)), (1, 1, (.t 23)), (2, 1, (.t 28))])),
           (false, o1 30 (.buildSl 34 3 1 [(.slice none 0 0), (.int .i64 0), (.string ⟨#[]⟩)] [(0, 3, (.t 29))])),
           (false, o1 31 (.app 34 3 48 (.t 11) (.t 30))),
           (false, o1 3 (.mv (.t 31)))]))
         (.reg [o1 9 (.mv (.t 4)),
          o1 10 (.bin .add (.t 9) (cI 1)),
          o1 4 (.mv (.t 10))]))))))
    (.seq (.reg [o1 32 (.mv (.t 3)),
      o1 2 (.mv (.t 32))])
     (.ret))))
theorem s46_ok : lookF Try.prog 46 = some (s46, 33, [.tmp 2]) := by kernel_rfl
theorem copied_ok (l : List Hung) (hs : SmH l) (h0 : 0 < l.length) : FnS P 46 [sl l] (fun S L r => L = [rowO 34 l] ∧ r = own S 0 l) := by
  have hl := hs.1
  (refine fnS_look s46_ok (by simp) fun S hS => cwp_sound _ _ _ _ ?_; simp (disch := omega) only [s46, go_sem, Nat.reduceEqDiff, ↓reduceIte, reduceCtorEq, Nat.reduceAdd, Nat.reduceMul, Int.reduceToNat, List.reduceReplicate, Nat.reduceLeDiff, Nat.reduceLT, Int.reduceLT, Int.reduceLE, Int.reduceEq])
  repeat' (first | with_reducible refine inw ?_ | simp (disch := omega) only [go_sem, Nat.reduceEqDiff, ↓reduceIte, reduceCtorEq, Nat.reduceAdd, Nat.reduceMul, Int.reduceToNat, List.reduceReplicate, Nat.reduceLeDiff, Nat.reduceLT, Int.reduceLT, Int.reduceLE, Int.reduceEq] | with_reducible refine giv_intro fun _h => ?_ | with_reducible refine alt_intro ?_ fun _h => ?_ | with_reducible refine pickD_nil ?_ | (with_reducible refine brc (fun _h => ?_) fun _h => ?_) <;> first | (exfalso; omega) | simp only [decide_eq_false _h] | simp only [(_h : (_ : Bool) = _)] | simp only [decide_eq_true _h] | skip)
  refine nil_row 3 34 3 (by simp (disch := omega) only [go_sem, Nat.reduceEqDiff, ↓reduceIte, reduceCtorEq, Nat.reduceAdd, Nat.reduceMul, Int.reduceToNat, List.reduceReplicate, Nat.reduceLeDiff, Nat.reduceLT, Int.reduceLT, Int.reduceLE, Int.reduceEq]) ?_
  (refine loopC hS [0] (by simp only [go_sem, Nat.reduceEqDiff, ↓reduceIte, reduceCtorEq, Nat.reduceAdd, Nat.reduceMul, Int.reduceToNat, List.reduceReplicate, Nat.reduceLeDiff, Nat.reduceLT, Int.reduceLT, Int.reduceLE, Int.reduceEq]; try rfl) (fun (i : Nat) => [(4, intA i), (3, own S 0 (l.take i))]) (fun (i : Nat) => [rowO 34 (l.take i)]) (fun (i : Nat) => i ≤ l.length) (fun (i : Nat) => l.length - i) (0) ?h03 ?hn3 ?rd3; case hn3 => (intro s; first | rfl | (rcases s with ⟨_, _⟩; rfl) | (rcases s with ⟨_, _, _⟩; rfl) | (rcases s with ⟨_, _, _, _⟩; rfl) | (rcases s with ⟨_, _, _, _, _⟩; rfl)))
  · simp (disch := omega) only [go_sem, Nat.reduceEqDiff, ↓reduceIte, reduceCtorEq, Nat.reduceAdd, Nat.reduceMul, Int.reduceToNat, List.reduceReplicate, Nat.reduceLeDiff, Nat.reduceLT, Int.reduceLT, Int.reduceLE, Int.reduceEq]; simp
  rintro i hi
  replace hi : i ≤ l.length := hi
  by_cases hil : i < l.length
  · have hz := (hs.2 _ (nth_mem hil)).2.1
    have hln : (l.take i).length = i := by rw [List.length_take]; omega
    refine swp_seq (in_seq ?_)
    repeat' (first | simp (disch := omega) only [go_sem, Nat.reduceEqDiff, ↓reduceIte, reduceCtorEq, Nat.reduceAdd, Nat.reduceMul, Int.reduceToNat, List.reduceReplicate, Nat.reduceLeDiff, Nat.reduceLT, Int.reduceLT, Int.reduceLE, Int.reduceEq] | with_reducible refine giv_intro fun _h => ?_ | with_reducible refine alt_intro ?_ fun _h => ?_ | with_reducible refine pickD_nil ?_ | (with_reducible refine brc (fun _h => ?_) fun _h => ?_) <;> first | (exfalso; omega) | simp only [decide_eq_false _h] | simp only [(_h : (_ : Bool) = _)] | simp only [decide_eq_true _h] | skip)
    refine swp_seq (in_block ?_)
    repeat' (first | simp (disch := omega) only [go_sem, Nat.reduceEqDiff, ↓reduceIte, reduceCtorEq, Nat.reduceAdd, Nat.reduceMul, Int.reduceToNat, List.reduceReplicate, Nat.reduceLeDiff, Nat.reduceLT, Int.reduceLT, Int.reduceLE, Int.reduceEq, hln, z3_hung, src_three] | with_reducible refine giv_intro fun _h => ?_ | with_reducible refine alt_intro ?_ fun _h => ?_ | with_reducible refine pickD_nil ?_ | (with_reducible refine brc (fun _h => ?_) fun _h => ?_) <;> first | (exfalso; omega) | simp only [decide_eq_false _h] | simp only [(_h : (_ : Bool) = _)] | simp only [decide_eq_true _h] | skip)
    have hc1 : (cellsL (l.take i)).length = i * 3 := by rw [cellsL_len, hln]
    refine freezeCell 0 1 (i * 3) 34 3 9 1 (by rfl) (by rw [List.getElem?_append_right (by omega), hc1, Nat.sub_self]; rfl) (by rfl) (by simp (disch := omega) only [go_sem, Nat.reduceEqDiff, ↓reduceIte, reduceCtorEq, Nat.reduceAdd, Nat.reduceMul, Int.reduceToNat, List.reduceReplicate, Nat.reduceLeDiff, Nat.reduceLT, Int.reduceLT, Int.reduceLE, Int.reduceEq]) (by omega) (by omega) ?_
    have et : (cellsL (nth l i).1).take ((nth l i).1.length * 1) = cellsL (nth l i).1 := List.take_of_length_le (by rw [cellsL_len]; exact Nat.le_refl _)
    have e3 : (cellsL (l.take i) ++ [AV.ref (S.nm 1) (nth l i).1.length 0 (nth l i).1.length, .sc (.int .i64 (nth l i).2.1), strA (nth l i).2.2]).set (i * 3) (.ro (nth l i).1.length ((cellsL (nth l i).1).take ((nth l i).1.length * 1))) = cellsL (l.take (i + 1)) := by
      rw [List.set_append_right _ _ (by omega), hc1, Nat.sub_self, List.set_cons_zero, et, take_nth hil, ← cellsL_app]
      rfl
    simp only [List.set_cons_zero, List.set_cons_succ, List.nil_append, e3]
    refine in_reg ?_
    repeat' (first | with_reducible refine inw ?_ | simp (disch := omega) only [go_sem, Nat.reduceEqDiff, ↓reduceIte, reduceCtorEq, Nat.reduceAdd, Nat.reduceMul, Int.reduceToNat, List.reduceReplicate, Nat.reduceLeDiff, Nat.reduceLT, Int.reduceLT, Int.reduceLE, Int.reduceEq] | with_reducible refine giv_intro fun _h => ?_ | with_reducible refine alt_intro ?_ fun _h => ?_ | with_reducible refine pickD_nil ?_ | (with_reducible refine brc (fun _h => ?_) fun _h => ?_) <;> first | (exfalso; omega) | simp only [decide_eq_false _h] | simp only [(_h : (_ : Bool) = _)] | simp only [decide_eq_true _h] | skip)
    exact ⟨i + 1, ⟨by omega, by omega⟩, ⟨by omega, by rw [List.length_take, Nat.min_eq_left (by omega)]; exact ⟨rfl, rfl⟩⟩, rfl⟩
  · repeat' (first | with_reducible refine inw ?_ | simp (disch := omega) only [go_sem, Nat.reduceEqDiff, ↓reduceIte, reduceCtorEq, Nat.reduceAdd, Nat.reduceMul, Int.reduceToNat, List.reduceReplicate, Nat.reduceLeDiff, Nat.reduceLT, Int.reduceLT, Int.reduceLE, Int.reduceEq] | with_reducible refine giv_intro fun _h => ?_ | with_reducible refine alt_intro ?_ fun _h => ?_ | with_reducible refine pickD_nil ?_ | (with_reducible refine brc (fun _h => ?_) fun _h => ?_) <;> first | (exfalso; omega) | simp only [decide_eq_false _h] | simp only [(_h : (_ : Bool) = _)] | simp only [decide_eq_true _h] | skip)
    rw [List.take_of_length_le (by omega)]
    exact ⟨rfl, rfl⟩
theorem copied_nil : Fn P 46 [sl ([] : List Hung)] (sl ([] : List Hung)) := by
  (refine fn_look s46_ok (by simp) (by intro k; simp only [go_sem, Nat.reduceEqDiff, ↓reduceIte, reduceCtorEq, Nat.reduceAdd, Nat.reduceMul, Int.reduceToNat, List.reduceReplicate, Nat.reduceLeDiff, Nat.reduceLT, Int.reduceLT, Int.reduceLE, Int.reduceEq]) fun S hS => cwp_sound _ _ _ _ ?_; simp (disch := omega) only [s46, go_sem, Nat.reduceEqDiff, ↓reduceIte, reduceCtorEq, Nat.reduceAdd, Nat.reduceMul, Int.reduceToNat, List.reduceReplicate, Nat.reduceLeDiff, Nat.reduceLT, Int.reduceLT, Int.reduceLE, Int.reduceEq])
  repeat' (first | with_reducible refine inw ?_ | simp (disch := omega) only [go_sem, Nat.reduceEqDiff, ↓reduceIte, reduceCtorEq, Nat.reduceAdd, Nat.reduceMul, Int.reduceToNat, List.reduceReplicate, Nat.reduceLeDiff, Nat.reduceLT, Int.reduceLT, Int.reduceLE, Int.reduceEq] | with_reducible refine giv_intro fun _h => ?_ | with_reducible refine alt_intro ?_ fun _h => ?_ | with_reducible refine pickD_nil ?_ | (with_reducible refine brc (fun _h => ?_) fun _h => ?_) <;> first | (exfalso; omega) | simp only [decide_eq_false _h] | simp only [(_h : (_ : Bool) = _)] | simp only [decide_eq_true _h] | skip)
  (refine loopC hS [0] (by simp only [go_sem, Nat.reduceEqDiff, ↓reduceIte, reduceCtorEq, Nat.reduceAdd, Nat.reduceMul, Int.reduceToNat, List.reduceReplicate, Nat.reduceLeDiff, Nat.reduceLT, Int.reduceLT, Int.reduceLE, Int.reduceEq]; try rfl) (fun (i : Nat) => [(4, intA 0), (3, nilA)]) (fun (i : Nat) => []) (fun (i : Nat) => True) (fun (i : Nat) => 0) (0) ?h04 ?hn4 ?rd4; case hn4 => (intro s; first | rfl | (rcases s with ⟨_, _⟩; rfl) | (rcases s with ⟨_, _, _⟩; rfl) | (rcases s with ⟨_, _, _, _⟩; rfl) | (rcases s with ⟨_, _, _, _, _⟩; rfl)))
  · simp (disch := omega) only [go_sem, Nat.reduceEqDiff, ↓reduceIte, reduceCtorEq, Nat.reduceAdd, Nat.reduceMul, Int.reduceToNat, List.reduceReplicate, Nat.reduceLeDiff, Nat.reduceLT, Int.reduceLT, Int.reduceLE, Int.reduceEq]
  rintro i _
  repeat' (first | with_reducible refine inw ?_ | simp (disch := omega) only [go_sem, Nat.reduceEqDiff, ↓reduceIte, reduceCtorEq, Nat.reduceAdd, Nat.reduceMul, Int.reduceToNat, List.reduceReplicate, Nat.reduceLeDiff, Nat.reduceLT, Int.reduceLT, Int.reduceLE, Int.reduceEq] | with_reducible refine giv_intro fun _h => ?_ | with_reducible refine alt_intro ?_ fun _h => ?_ | with_reducible refine pickD_nil ?_ | (with_reducible refine brc (fun _h => ?_) fun _h => ?_) <;> first | (exfalso; omega) | simp only [decide_eq_false _h] | simp only [(_h : (_ : Bool) = _)] | simp only [decide_eq_true _h] | skip)
  rfl
theorem idxH_is {l : List Hung} {v : Int} {r : Nat} (hr : r < l.length) (h1 : (nth l r).2.1 = v) (h2 : ∀ j, j < r → (nth l j).2.1 ≠ v) : idxH l v = r := by
  have e : l.findIdx? (fun h => decide (h.2.1 = v)) = some r := by
    rw [List.findIdx?_eq_some_iff_getElem]
    refine ⟨hr, by rw [← nth_eq hr]; simpa using h1, fun j hj => ?_⟩
    rw [← nth_eq (by omega)]; simpa using h2 j hj
  unfold idxH; rw [e]
theorem idxH_non {l : List Hung} {v : Int} (h2 : ∀ j, j < l.length → (nth l j).2.1 ≠ v) : idxH l v = -1 := by
  have e : l.findIdx? (fun h => decide (h.2.1 = v)) = none := by
    rw [List.findIdx?_eq_none_iff]
    intro x hx
    obtain ⟨j, hj, rfl⟩ := List.getElem_of_mem hx
    rw [← nth_eq hj]; simpa using h2 j hj
  unfold idxH; rw [e]
theorem depG_skip (r : Int) {x : List Hung} : ∀ (k n i : Nat), (∀ j, i ≤ j → j < i + k → (nth x j).2.1 ≠ -2) → depG r (k + n) i x = depG r n (i + k) x
  | 0, n, i, _ => by rw [Nat.zero_add]; rfl
  | k + 1, n, i, h => by
    rw [show k + 1 + n = (k + n) + 1 by omega, depG, depOf, if_neg (h i (by omega) (by omega)), depG_skip r k n (i + 1) (fun j h1 h2 => h j (by omega) (by omega))]
    rw [show i + 1 + k = i + (k + 1) by omega]
/-- What is known while the root is looked for. -/
def RootI (x : List Hung) (i : Nat) (r : Int) (d : List Hung) : Prop :=
  (r = (rootT x).2 ∧ 0 ≤ r ∧ depG (rootT x).2 x.length 0 (rootT x).1 = depG (rootT x).2 (x.length - i) i d) ∨ (r = -1 ∧ d = x ∧ (∀ j, j < i → (nth x j).2.1 ≠ -2) ∧ idxH x (-1) < 0)
theorem rootI_0 (x : List Hung) : RootI x 0 (idxH x (-1)) x := by
  by_cases h : idxH x (-1) < 0
  · exact .inr ⟨by have := (idxH_range x (-1)).1; omega, rfl, fun j hj => by omega, h⟩
  · have e : rootT x = (x, idxH x (-1)) := by rw [rootT, if_neg h]
    exact .inl ⟨by rw [e], by omega, by rw [e]; rfl⟩
theorem rootI_no {x d : List Hung} {i : Nat} {r : Int} (hi : i < x.length) (h : RootI x i r d) (h2 : (nth d i).2.1 ≠ -2) : RootI x (i + 1) r d := by
  rcases h with ⟨h1, h3, h4⟩ | ⟨h1, rfl, h4, h5⟩
  · refine .inl ⟨h1, h3, ?_⟩
    rw [h4, show x.length - i = (x.length - (i + 1)) + 1 by omega, depG, depOf, if_neg h2]
  · refine .inr ⟨h1, rfl, fun j hj => ?_, h5⟩
    by_cases e : j = i
    · rw [e]; exact h2
    · exact h4 j (by omega)
theorem rootI_root {x d : List Hung} {i : Nat} {r : Int} (hi : i < x.length) (h : RootI x i r d) (h2 : (nth d i).2.1 = -2) (hr : r < 0) : RootI x (i + 1) i (setHd d i (-1) ⟨#[114, 111, 111, 116]⟩) := by
  rcases h with ⟨h1, h3, h4⟩ | ⟨h1, rfl, h4, h5⟩
  · omega
  · have e2 := idxH_is hi h2 h4
    have e : rootT d = (setHd d i (-1) ⟨#[114, 111, 111, 116]⟩, (i : Int)) := by
      rw [rootT, if_pos h5, e2, if_pos (by omega), Int.toNat_natCast]
    refine .inl ⟨by rw [e], by omega, ?_⟩
    rw [e]
    dsimp only
    have := depG_skip (i : Int) (x := setHd d i (-1) ⟨#[114, 111, 111, 116]⟩) (i + 1) (d.length - (i + 1)) 0 (fun j _ hj => by
      rw [nth_setHd hi]
      split
      · show (-1 : Int) ≠ -2; omega
      · exact h4 j (by omega))
    rw [show i + 1 + (d.length - (i + 1)) = d.length by omega, Nat.zero_add] at this
    exact this
theorem rootI_dep {x d : List Hung} {i : Nat} {r : Int} (hi : i < x.length) (h : RootI x i r d) (h2 : (nth d i).2.1 = -2) (hr : ¬r < 0) : RootI x (i + 1) r (setHd d i r ⟨#[100, 101, 112]⟩) := by
  rcases h with ⟨h1, h3, h4⟩ | ⟨h1, _⟩
  · refine .inl ⟨h1, h3, ?_⟩
    rw [h4, show x.length - i = (x.length - (i + 1)) + 1 by omega, depG, depOf, if_pos h2, h1]
  · omega
theorem rootI_end {x d : List Hung} {r : Int} (h : RootI x x.length r d) : depG (rootT x).2 x.length 0 (rootT x).1 = d := by
  rcases h with ⟨h1, h3, h4⟩ | ⟨h1, rfl, h4, h5⟩
  · rw [h4, Nat.sub_self]; rfl
  · have e : rootT d = (d, idxH d (-2)) := by rw [rootT, if_pos h5, if_neg (by rw [idxH_non h4]; omega)]
    rw [e]
    exact depG_same _ h4 _ _ (by omega)
/-- The first root from a place on. -/
def FstI (x : List Hung) (k : Nat) (r : Int) : Prop := (r = -1 ∧ ∀ j, k ≤ j → j < x.length → (nth x j).2.1 ≠ -1) ∨ (∃ p : Nat, r = p ∧ k ≤ p ∧ p < x.length ∧ (nth x p).2.1 = -1 ∧ ∀ j, k ≤ j → j < p → (nth x j).2.1 ≠ -1)
theorem fstI_0 {x : List Hung} {r : Int} (h : FstI x 0 r) : r = idxH x (-1) := by
  rcases h with ⟨h1, h2⟩ | ⟨p, h1, h2, h3, h4, h5⟩
  · rw [h1, idxH_non fun j hj => h2 j (by omega) hj]
  · rw [h1, idxH_is h3 h4 fun j hj => h5 j (by omega) hj]
theorem fstI_yes {x : List Hung} {k : Nat} (hk : k < x.length) (h : (nth x k).2.1 = -1) : FstI x k k := .inr ⟨k, rfl, Nat.le_refl _, hk, h, fun j h1 h2 => by omega⟩
theorem fstI_no {x : List Hung} {k : Nat} {r : Int} (h0 : FstI x (k + 1) r) (h : (nth x k).2.1 ≠ -1) : FstI x k r := by
  have key : ∀ j, k ≤ j → (k + 1 ≤ j ∨ j = k) := fun j hj => by omega
  rcases h0 with ⟨h1, h2⟩ | ⟨p, h1, h2, h3, h4, h5⟩
  · exact .inl ⟨h1, fun j a b => by rcases key j a with c | rfl; exact h2 j c b; exact h⟩
  · exact .inr ⟨p, h1, by omega, h3, h4, fun j a b => by rcases key j a with c | rfl; exact h5 j c b; exact h⟩
theorem goodK_side {hs : List Hook} (h : formK hs = 0) {x : Hook} (hx : x ∈ hs) : -1 ≤ x.2.2.2.1 ∧ x.2.2.2.1 ≤ 1 := by
  unfold formK at h
  split at h
  · cases h
  · split at h
    · rename_i h2
      have := List.all_eq_true.1 h2 x hx
      simp only [goodK, Bool.and_eq_true, decide_eq_true_eq] at this
      omega
    · cases h
/-- ablaut/ablautref21.ValidateHooks: 1 parameters, 0 captured -/
def s44 : SC := .seq (.reg [o1 2 (.mv (cI 0))])
  (.seq (.seq (.reg [o1 6 (.mv (.t 0)),
     o1 7 (.lenL (.t 6)),
     o1 8 (.bin .gtr (.t 7) (cI 24))])
    (.cond (.t 8) (.seq (.reg [o1 2 (.mv (cI 3))])
      (.ret)) (.skip)))
   (.seq (.seq (.reg [o1 3 (.mv (cI 0))])
     (.block 0 (.loop (.seq (.seq (.reg [o1 9 (.mv (.t 3)),
          o1 10 (.mv (.t 0)),
          o1 11 (.lenL (.t 10)),
          o1 12 (.bin .lss (.t 9) (.t 11))])
         (.cond (.t 12) (.skip) (.exit 0)))
        (.seq (.block 1 (.seq (.reg [o1 15 (.mv (.t 0)),
            o1 16 (.mv (.t 3)),
            o1 17 (.iaddr 6 (.t 15) (.t 16)),
            o1 18 (.faddr 0 (.t 17)),
            o1 19 (.load none (.t 18)),
            o1 20 (.lenL (.t 19)),
            o1 21 (.bin .gtr (.t 20) (cI 16)),
            o1 22 (.mv (.t 21)),
            oF 23 (.mv (.t 0)) 22,
            oF 24 (.mv (.t 3)) 22,
            oF 25 (.iaddr 6 (.t 23) (.t 24)) 22,
            oF 26 (.faddr 1 (.t 25)) 22,
            oF 27 (.load none (.t 26)) 22,
            oF 28 (.lenL (.t 27)) 22,
            oF 29 (.bin .gtr (.t 28) (cI 16)) 22,
            o1 30 (.pick (.t 22) (cB true) (.t 29)),
            o1 31 (.mv (.t 30)),
            oF 32 (.mv (.t 0)) 31,
            oF 33 (.mv (.t 3)) 31,
            oF 34 (.iaddr 6 (.t 32) (.t 33)) 31,
            oF 35 (.faddr 2 (.t 34)) 31,
            oF 36 (.load none (.t 35)) 31,
            oF 37 (.lenL (.t 36)) 31,
            oF 38 (.bin .gtr (.t 37) (cI 16)) 31,
            o1 39 (.pick (.t 31) (cB true) (.t 38))])
           (.cond (.t 39) (.seq (.reg [o1 2 (.mv (cI 3))])
             (.ret)) (.skip))))
         (.reg [o1 13 (.mv (.t 3)),
          o1 14 (.bin .add (.t 13) (cI 1)),
          o1 3 (.mv (.t 14))]))))))
    (.seq (.seq (.reg [o1 4 (.mv (cI 0))])
      (.block 2 (.loop (.seq (.seq (.reg [o1 40 (.mv (.t 4)),
           o1 41 (.mv (.t 0)),
           o1 42 (.lenL (.t 41)),
           o1 43 (.bin .lss (.t 40) (.t 42))])
          (.cond (.t 43) (.skip) (.exit 2)))
         (.seq (.block 3 (.seq (.reg [o1 46 (.mv (.t 0)),
             o1 47 (.mv (.t 4)),
             o1 48 (.iaddr 6 (.t 46) (.t 47)),
             o1 49 (.load (some 6) (.t 48)),
             o1 5 (.alloc 57 6 [(.slice none 0 0), (.slice none 0 0), (.slice none 0 0), (.int .i64 0), (.int .i64 0), (.string ⟨#[]⟩)]),
             o0 (.store 6 (.t 5) (.t 49))])
            (.seq (.reg [o1 50 (.faddr 0 (.t 5)),
              o1 51 (.load none (.t 50)),
              o1 52 (.call (.f 57) [(.t 51)]),
              o1 53 (.un .not (.t 52)),
              o1 54 (.mv (.t 53)),
              oF 55 (.faddr 1 (.t 5)) 54,
              oF 56 (.load none (.t 55)) 54,
              oF 57 (.call (.f 57) [(.t 56)]) 54,
              oF 58 (.un .not (.t 57)) 54,
              o1 59 (.pick (.t 54) (cB true) (.t 58)),
              o1 60 (.mv (.t 59)),
              oF 61 (.faddr 2 (.t 5)) 60,
              oF 62 (.load none (.t 61)) 60,
              oF 63 (.call (.f 57) [(.t 62)]) 60,
              oF 64 (.un .not (.t 63)) 60,
              o1 65 (.pick (.t 60) (cB true) (.t 64)),
              o1 66 (.mv (.t 65)),
              oF 67 (.faddr 3 (.t 5)) 66,
              oF 68 (.load none (.t 67)) 66,
              oF 69 (.bin .lss (.t 68) (cI (-1))) 66,
              o1 70 (.pick (.t 66) (cB true) (.t 69)),
              o1 71 (.mv (.t 70)),
              oF 72 (.faddr 3 (.t 5)) 71,
              oF 73 (.load none (.t 72)) 71,
              oF 74 (.bin .gtr (.t 73) (cI 1)) 71,
              o1 75 (.pick (.t 71) (cB true) (.t 74)),
              o1 76 (.mv (.t 75)),
              oF 77 (.faddr 4 (.t 5)) 76,
              oF 78 (.load none (.t 77)) 76,
              oF 79 (.bin .lss (.t 78) (cI 1)) 76,
              o1 80 (.pick (.t 76) (cB true) (.t 79)),
              o1 81 (.mv (.t 80)),
              oF 82 (.faddr 4 (.t 5)) 81,
              oF 83 (.load none (.t 82)) 81,
              oF 84 (.bin .gtr (.t 83) (cI 200)) 81,
              o1 85 (.pick (.t 81) (cB true) (.t 84)),
              o1 86 (.mv (.t 85)),
              oF 87 (.faddr 5 (.t 5)) 86,
              oF 88 (.load none (.t 87)) 86,
              oF 89 (.call (.f 74) [(.t 88)]) 86,
              oF 90 (.un .not (.t 89)) 86,
              o1 91 (.pick (.t 86) (cB true) (.t 90))])
             (.cond (.t 91) (.seq (.reg [o1 2 (.mv (cI 1))])
               (.ret)) (.skip)))))
          (.reg [o1 44 (.mv (.t 4)),
           o1 45 (.bin .add (.t 44) (cI 1)),
           o1 4 (.mv (.t 45))]))))))
     (.seq (.reg [o1 2 (.mv (cI 0))])
      (.ret)))))
theorem s44_ok : lookF Try.prog 44 = some (s44, 92, [.tmp 2]) := by kernel_rfl
set_option maxHeartbeats 2000000 in
theorem rvHooks_ok (l : List Hook) (hs : SmK l) : Fn P 44 [sl l] (intA (formK l)) := by
  by_cases hL2 : 24 < l.length
  · rw [formK, if_pos (.inl hL2)]
    (refine fn_look s44_ok (by simp) (by intro k; simp only [go_sem, Nat.reduceEqDiff, ↓reduceIte, reduceCtorEq, Nat.reduceAdd, Nat.reduceMul, Int.reduceToNat, List.reduceReplicate, Nat.reduceLeDiff, Nat.reduceLT, Int.reduceLT, Int.reduceLE, Int.reduceEq]) fun S hS => cwp_sound _ _ _ _ ?_; simp (disch := omega) only [s44, go_sem, Nat.reduceEqDiff, ↓reduceIte, reduceCtorEq, Nat.reduceAdd, Nat.reduceMul, Int.reduceToNat, List.reduceReplicate, Nat.reduceLeDiff, Nat.reduceLT, Int.reduceLT, Int.reduceLE, Int.reduceEq])
    repeat' (first | with_reducible refine inw ?_ | simp (disch := omega) only [go_sem, Nat.reduceEqDiff, ↓reduceIte, reduceCtorEq, Nat.reduceAdd, Nat.reduceMul, Int.reduceToNat, List.reduceReplicate, Nat.reduceLeDiff, Nat.reduceLT, Int.reduceLT, Int.reduceLE, Int.reduceEq] | with_reducible refine giv_intro fun _h => ?_ | with_reducible refine alt_intro ?_ fun _h => ?_ | with_reducible refine pickD_nil ?_ | (with_reducible refine brc (fun _h => ?_) fun _h => ?_) <;> first | (exfalso; omega) | simp only [decide_eq_false _h] | simp only [(_h : (_ : Bool) = _)] | simp only [decide_eq_true _h] | skip)
  · (refine fn_look s44_ok (by simp) (by intro k; simp only [go_sem, Nat.reduceEqDiff, ↓reduceIte, reduceCtorEq, Nat.reduceAdd, Nat.reduceMul, Int.reduceToNat, List.reduceReplicate, Nat.reduceLeDiff, Nat.reduceLT, Int.reduceLT, Int.reduceLE, Int.reduceEq]) fun S hS => cwp_sound _ _ _ _ ?_; simp (disch := omega) only [s44, go_sem, Nat.reduceEqDiff, ↓reduceIte, reduceCtorEq, Nat.reduceAdd, Nat.reduceMul, Int.reduceToNat, List.reduceReplicate, Nat.reduceLeDiff, Nat.reduceLT, Int.reduceLT, Int.reduceLE, Int.reduceEq])
    repeat' (first | with_reducible refine inw ?_ | simp (disch := omega) only [go_sem, Nat.reduceEqDiff, ↓reduceIte, reduceCtorEq, Nat.reduceAdd, Nat.reduceMul, Int.reduceToNat, List.reduceReplicate, Nat.reduceLeDiff, Nat.reduceLT, Int.reduceLT, Int.reduceLE, Int.reduceEq] | with_reducible refine giv_intro fun _h => ?_ | with_reducible refine alt_intro ?_ fun _h => ?_ | with_reducible refine pickD_nil ?_ | (with_reducible refine brc (fun _h => ?_) fun _h => ?_) <;> first | (exfalso; omega) | simp only [decide_eq_false _h] | simp only [(_h : (_ : Bool) = _)] | simp only [decide_eq_true _h] | skip)
    (refine loopC hS [0] (by simp only [go_sem, Nat.reduceEqDiff, ↓reduceIte, reduceCtorEq, Nat.reduceAdd, Nat.reduceMul, Int.reduceToNat, List.reduceReplicate, Nat.reduceLeDiff, Nat.reduceLT, Int.reduceLT, Int.reduceLE, Int.reduceEq]; try rfl) (fun (i : Nat) => [(3, intA i)]) (fun (i : Nat) => []) (fun (i : Nat) => i ≤ l.length ∧ l.any longK = (l.drop i).any longK) (fun (i : Nat) => l.length - i) (0) ?h05 ?hn5 ?rd5; case hn5 => (intro s; first | rfl | (rcases s with ⟨_, _⟩; rfl) | (rcases s with ⟨_, _, _⟩; rfl) | (rcases s with ⟨_, _, _, _⟩; rfl) | (rcases s with ⟨_, _, _, _, _⟩; rfl)))
    · simp (disch := omega) only [go_sem, Nat.reduceEqDiff, ↓reduceIte, reduceCtorEq, Nat.reduceAdd, Nat.reduceMul, Int.reduceToNat, List.reduceReplicate, Nat.reduceLeDiff, Nat.reduceLT, Int.reduceLT, Int.reduceLE, Int.reduceEq]; simp
    rintro i ⟨hi, hI⟩
    replace hi : i ≤ l.length := hi
    replace hI : l.any longK = (l.drop i).any longK := hI
    by_cases hil : i < l.length
    · have hst := any_step hil hI
      have hlk : longK (nth l i) = decide (16 < (max (max ((nth l i).1.length : Int) (nth l i).2.1.length) (nth l i).2.2.1.length)) := rfl
      repeat' (first | with_reducible refine inw ?_ | simp (disch := omega) only [go_sem, Nat.reduceEqDiff, ↓reduceIte, reduceCtorEq, Nat.reduceAdd, Nat.reduceMul, Int.reduceToNat, List.reduceReplicate, Nat.reduceLeDiff, Nat.reduceLT, Int.reduceLT, Int.reduceLE, Int.reduceEq] | with_reducible refine giv_intro fun _h => ?_ | with_reducible refine alt_intro ?_ fun _h => ?_ | with_reducible refine pickD_nil ?_ | (with_reducible refine brc (fun _h => ?_) fun _h => ?_) <;> first | (exfalso; omega) | simp only [decide_eq_false _h] | simp only [(_h : (_ : Bool) = _)] | simp only [decide_eq_true _h] | skip)
      all_goals first
        | (rw [formK, if_pos (.inr (by rw [hst, hlk, decide_eq_true (by omega)]; rfl))]; done)
        | exact ⟨i + 1, ⟨by omega, by omega, by rw [hst, hlk, decide_eq_false (by omega)]; rfl⟩, by omega⟩
    · rw [List.drop_eq_nil_of_le (by omega)] at hI
      rw [formK, if_neg (by rw [hI]; simp; omega)]
      repeat' (first | with_reducible refine inw ?_ | simp (disch := omega) only [go_sem, Nat.reduceEqDiff, ↓reduceIte, reduceCtorEq, Nat.reduceAdd, Nat.reduceMul, Int.reduceToNat, List.reduceReplicate, Nat.reduceLeDiff, Nat.reduceLT, Int.reduceLT, Int.reduceLE, Int.reduceEq] | with_reducible refine giv_intro fun _h => ?_ | with_reducible refine alt_intro ?_ fun _h => ?_ | with_reducible refine pickD_nil ?_ | (with_reducible refine brc (fun _h => ?_) fun _h => ?_) <;> first | (exfalso; omega) | simp only [decide_eq_false _h] | simp only [(_h : (_ : Bool) = _)] | simp only [decide_eq_true _h] | skip)
      (refine loopC hS [0] (by simp only [go_sem, Nat.reduceEqDiff, ↓reduceIte, reduceCtorEq, Nat.reduceAdd, Nat.reduceMul, Int.reduceToNat, List.reduceReplicate, Nat.reduceLeDiff, Nat.reduceLT, Int.reduceLT, Int.reduceLE, Int.reduceEq]; try rfl) (fun (i : Nat) => [(4, intA i)]) (fun (i : Nat) => []) (fun (i : Nat) => i ≤ l.length ∧ l.all goodK = (l.drop i).all goodK) (fun (i : Nat) => l.length - i) (0) ?h06 ?hn6 ?rd6; case hn6 => (intro s; first | rfl | (rcases s with ⟨_, _⟩; rfl) | (rcases s with ⟨_, _, _⟩; rfl) | (rcases s with ⟨_, _, _, _⟩; rfl) | (rcases s with ⟨_, _, _, _, _⟩; rfl)))
      · simp (disch := omega) only [go_sem, Nat.reduceEqDiff, ↓reduceIte, reduceCtorEq, Nat.reduceAdd, Nat.reduceMul, Int.reduceToNat, List.reduceReplicate, Nat.reduceLeDiff, Nat.reduceLT, Int.reduceLT, Int.reduceLE, Int.reduceEq]; simp
      rintro i ⟨hi, hI⟩
      replace hi : i ≤ l.length := hi
      replace hI : l.all goodK = (l.drop i).all goodK := hI
      by_cases hil : i < l.length
      · have hst := all_step hil hI
        obtain ⟨hz1, hz2, hz3, hz4⟩ := hs.2 _ (nth_mem hil)
        have c2 := IsName_ok (nth l i).2.2.2.2.2 (by omega)
        have c3 := IsNames_ok (nth l i).1 hz1.len hz1.sizes
        have c4 := IsNames_ok (nth l i).2.1 hz2.len hz2.sizes
        have c5 := IsNames_ok (nth l i).2.2.1 hz3.len hz3.sizes
        have hg : goodK (nth l i) = (setB (nth l i).1 && (setB (nth l i).2.1 && (setB (nth l i).2.2.1 && (decide (-1 ≤ (nth l i).2.2.2.1 ∧ (nth l i).2.2.2.1 ≤ 1 ∧ 1 ≤ (nth l i).2.2.2.2.1 ∧ (nth l i).2.2.2.2.1 ≤ 200) && nameB (nth l i).2.2.2.2.2)))) := rfl
        have bad : goodK (nth l i) = false → (1 : Int) = if l.all goodK = true then 0 else 1 := fun h => by rw [hst, h]; rfl
        have good : goodK (nth l i) = true → l.all goodK = (l.drop (i + 1)).all goodK := fun h => by rw [hst, h, Bool.true_and]
        repeat' (first | with_reducible refine inw ?_ | simp (disch := omega) only [go_sem, Nat.reduceEqDiff, ↓reduceIte, reduceCtorEq, Nat.reduceAdd, Nat.reduceMul, Int.reduceToNat, List.reduceReplicate, Nat.reduceLeDiff, Nat.reduceLT, Int.reduceLT, Int.reduceLE, Int.reduceEq] | (with_reducible apply call (c2)); (focus simp (disch := omega) only [go_sem, Nat.reduceEqDiff, ↓reduceIte, reduceCtorEq, Nat.reduceAdd, Nat.reduceMul, Int.reduceToNat, List.reduceReplicate, Nat.reduceLeDiff, Nat.reduceLT, Int.reduceLT, Int.reduceLE, Int.reduceEq] <;> rfl) | (with_reducible apply call (c3)); (focus simp (disch := omega) only [go_sem, Nat.reduceEqDiff, ↓reduceIte, reduceCtorEq, Nat.reduceAdd, Nat.reduceMul, Int.reduceToNat, List.reduceReplicate, Nat.reduceLeDiff, Nat.reduceLT, Int.reduceLT, Int.reduceLE, Int.reduceEq] <;> rfl) | (with_reducible apply call (c4)); (focus simp (disch := omega) only [go_sem, Nat.reduceEqDiff, ↓reduceIte, reduceCtorEq, Nat.reduceAdd, Nat.reduceMul, Int.reduceToNat, List.reduceReplicate, Nat.reduceLeDiff, Nat.reduceLT, Int.reduceLT, Int.reduceLE, Int.reduceEq] <;> rfl) | (with_reducible apply call (c5)); (focus simp (disch := omega) only [go_sem, Nat.reduceEqDiff, ↓reduceIte, reduceCtorEq, Nat.reduceAdd, Nat.reduceMul, Int.reduceToNat, List.reduceReplicate, Nat.reduceLeDiff, Nat.reduceLT, Int.reduceLT, Int.reduceLE, Int.reduceEq] <;> rfl) | with_reducible refine giv_intro fun _h => ?_ | with_reducible refine alt_intro ?_ fun _h => ?_ | with_reducible refine pickD_nil ?_ | (with_reducible refine brc (fun _h => ?_) fun _h => ?_) <;> first | (exfalso; omega) | simp only [decide_eq_false _h] | simp only [(_h : (_ : Bool) = _)] | simp only [decide_eq_true _h] | skip)
        all_goals first
          | exact bad (by rw [hg, ← Bool.not_eq_true]; simp only [Bool.and_eq_true, decide_eq_true_eq]; rintro ⟨q1, q2, q3, q4, q5⟩; first | omega | (rw [q1] at _h; cases _h) | (rw [q2] at _h; cases _h) | (rw [q3] at _h; cases _h) | (rw [q5] at _h; cases _h))
          | exact ⟨i + 1, ⟨by omega, by omega, good (by rw [hg]; simp only [Bool.and_eq_true, decide_eq_true_eq]; exact ⟨by assumption, by assumption, by assumption, by omega, by assumption⟩)⟩, by omega⟩
      · rw [List.drop_eq_nil_of_le (by omega)] at hI
        rw [hI]
        repeat' (first | with_reducible refine inw ?_ | simp (disch := omega) only [go_sem, Nat.reduceEqDiff, ↓reduceIte, reduceCtorEq, Nat.reduceAdd, Nat.reduceMul, Int.reduceToNat, List.reduceReplicate, Nat.reduceLeDiff, Nat.reduceLT, Int.reduceLT, Int.reduceLE, Int.reduceEq] | with_reducible refine giv_intro fun _h => ?_ | with_reducible refine alt_intro ?_ fun _h => ?_ | with_reducible refine pickD_nil ?_ | (with_reducible refine brc (fun _h => ?_) fun _h => ?_) <;> first | (exfalso; omega) | simp only [decide_eq_false _h] | simp only [(_h : (_ : Bool) = _)] | simp only [decide_eq_true _h] | skip)
/-- ablaut/ablautref21.Hang: 2 parameters, 0 captured -/
def s16 : SC := .seq (.reg [o1 4 (.mv (.c (.slice none 0 0))),
   o1 5 (.mv (cI 0))])
  (.seq (.seq (.reg [o1 14 (.mv (.t 0)),
     o1 15 (.call (.f 44) [(.t 14)]),
     o1 6 (.mv (.t 15))])
    (.seq (.reg [o1 16 (.mv (.t 6)),
      o1 17 (.bin .neq (.t 16) (cI 0))])
     (.cond (.t 17) (.seq (.reg [o1 18 (.mv (.t 6)),
        o1 4 (.mv (.c (.slice none 0 0))),
        o1 5 (.mv (.t 18))])
       (.ret)) (.skip))))
   (.seq (.seq (.reg [o1 19 (.mv (.t 1)),
      o1 20 (.call (.f 45) [(.t 19)]),
      o1 7 (.mv (.t 20))])
     (.seq (.reg [o1 21 (.mv (.t 7)),
       o1 22 (.bin .neq (.t 21) (cI 0))])
      (.cond (.t 22) (.seq (.reg [o1 23 (.mv (.t 7)),
         o1 4 (.mv (.c (.slice none 0 0))),
         o1 5 (.mv (.t 23))])
        (.ret)) (.skip))))
    (.seq (.reg [o1 24 (.mv (.t 1)),
      o1 25 (.call (.f 46) [(.t 24)]),
      o1 1 (.mv (.t 25))])
     (.seq (.seq (.reg [o1 8 (.mv (cI 0))])
       (.block 0 (.loop (.seq (.seq (.reg [o1 26 (.mv (.t 8)),
            o1 27 (.mv (.t 0)),
            o1 28 (.lenL (.t 27)),
            o1 29 (.bin .lss (.t 26) (.t 28))])
           (.cond (.t 29) (.skip) (.exit 0)))
          (.seq (.block 1 (.seq (.reg [o1 9 (.mv (cI 0))])
             (.block 2 (.loop (.seq (.seq (.reg [o1 32 (.mv (.t 9)),
                  o1 33 (.mv (.t 1)),
                  o1 34 (.lenL (.t 33)),
                  o1 35 (.bin .lss (.t 32) (.t 34))])
                 (.cond (.t 35) (.skip) (.exit 2)))
                (.seq (.block 3 (.seq (.seq (.regD [o1 38 (.mv (.t 1)),
                     o1 39 (.mv (.t 9)),
                     o1 40 (.iaddr 3 (.t 38) (.t 39)),
                     o1 41 (.faddr 1 (.t 40)),
                     o1 42 (.load none (.t 41)),
                     o1 43 (.bin .neq (.t 42) (cI (-2))),
                     o1 44 (.mv (.t 43)),
                     oF 45 (.mv (.t 0)) 44,
                     oF 46 (.mv (.t 8)) 44,
                     oF 47 (.iaddr 6 (.t 45) (.t 46)) 44,
                     oF 48 (.faddr 0 (.t 47)) 44,
                     oF 49 (.load none (.t 48)) 44,
                     oF 50 (.mv (.t 1)) 44,
                     oF 51 (.mv (.t 9)) 44,
                     oF 52 (.iaddr 3 (.t 50) (.t 51)) 44,
                     oF 53 (.faddr 0 (.t 52)) 44,
                     oF 54 (.load none (.t 53)) 44,
                     oF 55 (.call (.f 47) [(.t 49), (.t 54)]) 44,
                     oF 56 (.un .not (.t 55)) 44,
                     o1 57 (.pick (.t 44) (cB true) (.t 56))])
                    (.cond (.t 57) (.exit 3) (.skip)))
                   (.seq (.reg [o1 58 (.mv (.t 0)),
                     o1 59 (.mv (.t 8)),
                     o1 60 (.iaddr 6 (.t 58) (.t 59)),
                     o1 61 (.load (some 6) (.t 60)),
                     o1 62 (.mv (.t 1)),
                     o1 63 (.mv (.t 9)),
                     o1 64 (.call (.f 48) [(.t 61), (.t 62), (.t 63)]),
                     o1 10 (.mv (.t 64))])
                    (.seq (.reg [o1 65 (.mv (.t 10)),
                      o1 66 (.bin .geq (.t 65) (cI 0))])
                     (.cond (.t 66) (.reg [o1 67 (.mv (.t 1)),
                       o1 68 (.mv (.t 9)),
                       o1 69 (.mv (.t 1)),
                       o1 70 (.mv (.t 9)),
                       o1 71 (.mv (.t 10)),
                       o1 72 (.mv (.t 0)),
                       o1 73 (.mv (.t 8)),
                       o1 74 (.iaddr 6 (.t 72) (.t 73)),
                       o1 75 (.faddr 5 (.t 74)),
                       o1 76 (.load none (.t 75)),
                       o1 77 (.iaddr 3 (.t 67) (.t 68)),
                       o1 78 (.faddr 1 (.t 77)),
                       o0 (.store 1 (.t 78) (.t 71)),
                       o1 79 (.iaddr 3 (.t 69) (.t 70)),
                       o1 80 (.faddr 2 (.t 79)),
                       o0 (.store 1 (.t 80) (.t 76))]) (.skip))))))
                 (.reg [o1 36 (.mv (.t 9)),
                  o1 37 (.bin .add (.t 36) (cI 1)),
                  o1 9 (.mv (.t 37))])))))))
           (.reg [o1 30 (.mv (.t 8)),
            o1 31 (.bin .add (.t 30) (cI 1)),
            o1 8 (.mv (.t 31))]))))))
      (.seq (.reg [o1 11 (.mv (cI (-1)))])
       (.seq (.seq (.reg [o1 81 (.mv (.t 1)),
          o1 82 (.lenL (.t 81)),
          o1 83 (.bin .sub (.t 82) (cI 1)),
          o1 12 (.mv (.t 83))])
         (.block 4 (.loop (.seq (.seq (.reg [o1 84 (.mv (.t 12)),
              o1 85 (.bin .geq (.t 84) (cI 0))])
             (.cond (.t 85) (.skip) (.exit 4)))
            (.seq (.block 5 (.seq (.reg [o1 88 (.mv (.t 1)),
                o1 89 (.mv (.t 12)),
                o1 90 (.iaddr 3 (.t 88) (.t 89)),
                o1 91 (.faddr 1 (.t 90)),
                o1 92 (.load none (.t 91)),
                o1 93 (.bin .eql (.t 92) (cI (-1)))])
               (.cond (.t 93) (.reg [o1 94 (.mv (.t 12)),
                 o1 11 (.mv (.t 94))]) (.skip))))
             (.reg [o1 86 (.mv (.t 12)),
              o1 87 (.bin .sub (.t 86) (cI 1)),
              o1 12 (.mv (.t 87))]))))))
        (.seq (.seq (.reg [o1 13 (.mv (cI 0))])
          (.block 6 (.loop (.seq (.seq (.reg [o1 95 (.mv (.t 13)),
               o1 96 (.mv (.t 1)),
               o1 97 (.lenL (.t 96)),
               o1 98 (.bin .lss (.t 95) (.t 97))])
              (.cond (.t 98) (.skip) (.exit 6)))
             (.seq (.block 7 (.block 8 (.seq (.reg [o1 111 (.mv (.t 1)),
                  o1 112 (.mv (.t 13)),
                  o1 113 (.iaddr 3 (.t 111) (.t 112)),
                  o1 114 (.faddr 1 (.t 113)),
                  o1 115 (.load none (.t 114)),
                  o1 116 (.bin .neq (.t 115) (cI (-2))),
                  o1 110 (.mv (.t 116))])
                 (.cond (.t 110) (.skip) (.seq (.reg [o1 118 (.mv (.t 11)),
                    o1 119 (.bin .lss (.t 118) (cI 0)),
                    o1 117 (.mv (.t 119))])
                   (.cond (.t 117) (.seq (.reg [o1 120 (.mv (.t 13)),
                      o1 11 (.mv (.t 120))])
                     (.reg [o1 121 (.mv (.t 1)),
                      o1 122 (.mv (.t 13)),
                      o1 123 (.mv (.t 1)),
                      o1 124 (.mv (.t 13)),
                      o1 125 (.iaddr 3 (.t 121) (.t 122)),
                      o1 126 (.faddr 1 (.t 125)),
                      o0 (.store 1 (.t 126) (cI (-1))),
                      o1 127 (.iaddr 3 (.t 123) (.t 124)),
                      o1 128 (.faddr 2 (.t 127)),
                      o0 (.store 1 (.t 128) (.c (.string ⟨#[114, 111, 111, 116]⟩)))])) (.reg [o1 101 (.mv (.t 1)),
                     o1 102 (.mv (.t 13)),
                     o1 103 (.mv (.t 1)),
                     o1 104 (.mv (.t 13)),
                     o1 105 (.mv (.t 11)),
                     o1 106 (.iaddr 3 (.t 101) (.t 102)),
                     o1 107 (.faddr 1 (.t 106)),
                     o0 (.store 1 (.t 107) (.t 105)),
                     o1 108 (.iaddr 3 (.t 103) (.t 104)),
                     o1 109 (.faddr 2 (.t 108)),
                     o0 (.store 1 (.t 109) (.c (.string ⟨#[100, 101, 112]⟩)))])))))))
              (.reg [o1 99 (.mv (.t 13)),
               o1 100 (.bin .add (.t 99) (cI 1)),
               o1 13 (.mv (.t 100))]))))))
         (.seq (.reg [o1 129 (.mv (.t 1)),
           o1 4 (.mv (.t 129)),
           o1 5 (.mv (cI 0))])
          (.ret)))))))))
theorem s16_ok : lookF Try.prog 16 = some (s16, 130, [.tmp 4, .tmp 5]) := by kernel_rfl
set_option maxHeartbeats 4000000 in
theorem rHang_ok (hs : List Hook) (l : List Hung) (hsm : SmK hs) (lsm : SmH l) : Fn P 16 [sl hs, sl l] (.tup [sl (hangT hs l).1, intA (hangT hs l).2]) := by
  have c1 := rvHooks_ok hs hsm
  have c2 := rValidate_ok l lsm
  by_cases hk : formK hs = 0
  · by_cases hv : valE l = 0
    · rw [hk] at c1
      rw [hv] at c2
      rw [hangT, if_neg (by omega), if_neg (by omega)]
      obtain ⟨v1, v2, v3⟩ := valE_ok hv
      by_cases h0 : l.length = 0
      · obtain rfl := List.eq_nil_of_length_eq_zero h0
        have hz : ∀ hs : List Hook, hooksF 0 hs [] = [] := fun hs => by
          induction hs with
          | nil => rfl
          | cons h hs ih => exact ih
        have hr : hangL hs [] = [] := by rw [hangL, List.length_nil, hz]; rfl
        rw [hr]
        (refine fn_look s16_ok (by simp) (by intro k; simp only [go_sem, Nat.reduceEqDiff, ↓reduceIte, reduceCtorEq, Nat.reduceAdd, Nat.reduceMul, Int.reduceToNat, List.reduceReplicate, Nat.reduceLeDiff, Nat.reduceLT, Int.reduceLT, Int.reduceLE, Int.reduceEq]) fun S hS => cwp_sound _ _ _ _ ?_; simp (disch := omega) only [s16, go_sem, Nat.reduceEqDiff, ↓reduceIte, reduceCtorEq, Nat.reduceAdd, Nat.reduceMul, Int.reduceToNat, List.reduceReplicate, Nat.reduceLeDiff, Nat.reduceLT, Int.reduceLT, Int.reduceLE, Int.reduceEq])
        repeat' (first | with_reducible refine inw ?_ | simp (disch := omega) only [go_sem, Nat.reduceEqDiff, ↓reduceIte, reduceCtorEq, Nat.reduceAdd, Nat.reduceMul, Int.reduceToNat, List.reduceReplicate, Nat.reduceLeDiff, Nat.reduceLT, Int.reduceLT, Int.reduceLE, Int.reduceEq] | (with_reducible apply call (c1)); (focus simp (disch := omega) only [go_sem, Nat.reduceEqDiff, ↓reduceIte, reduceCtorEq, Nat.reduceAdd, Nat.reduceMul, Int.reduceToNat, List.reduceReplicate, Nat.reduceLeDiff, Nat.reduceLT, Int.reduceLT, Int.reduceLE, Int.reduceEq] <;> rfl) | (with_reducible apply call (c2)); (focus simp (disch := omega) only [go_sem, Nat.reduceEqDiff, ↓reduceIte, reduceCtorEq, Nat.reduceAdd, Nat.reduceMul, Int.reduceToNat, List.reduceReplicate, Nat.reduceLeDiff, Nat.reduceLT, Int.reduceLT, Int.reduceLE, Int.reduceEq] <;> rfl) | (with_reducible apply call (copied_nil)); (focus simp (disch := omega) only [go_sem, Nat.reduceEqDiff, ↓reduceIte, reduceCtorEq, Nat.reduceAdd, Nat.reduceMul, Int.reduceToNat, List.reduceReplicate, Nat.reduceLeDiff, Nat.reduceLT, Int.reduceLT, Int.reduceLE, Int.reduceEq] <;> rfl) | with_reducible refine giv_intro fun _h => ?_ | with_reducible refine alt_intro ?_ fun _h => ?_ | with_reducible refine pickD_nil ?_ | (with_reducible refine brc (fun _h => ?_) fun _h => ?_) <;> first | (exfalso; omega) | simp only [decide_eq_false _h] | simp only [(_h : (_ : Bool) = _)] | simp only [decide_eq_true _h] | skip)
        (refine loopC hS [0, 1] (by simp only [go_sem, Nat.reduceEqDiff, ↓reduceIte, reduceCtorEq, Nat.reduceAdd, Nat.reduceMul, Int.reduceToNat, List.reduceReplicate, Nat.reduceLeDiff, Nat.reduceLT, Int.reduceLT, Int.reduceLE, Int.reduceEq]; try rfl) (fun (k : Nat) => [(8, intA k)]) (fun (k : Nat) => []) (fun (k : Nat) => k ≤ hs.length) (fun (k : Nat) => hs.length - k) (0) ?h07 ?hn7 ?rd7; case hn7 => (intro s; first | rfl | (rcases s with ⟨_, _⟩; rfl) | (rcases s with ⟨_, _, _⟩; rfl) | (rcases s with ⟨_, _, _, _⟩; rfl) | (rcases s with ⟨_, _, _, _, _⟩; rfl)))
        · simp (disch := omega) only [go_sem, Nat.reduceEqDiff, ↓reduceIte, reduceCtorEq, Nat.reduceAdd, Nat.reduceMul, Int.reduceToNat, List.reduceReplicate, Nat.reduceLeDiff, Nat.reduceLT, Int.reduceLT, Int.reduceLE, Int.reduceEq]; simp
        rintro k hk1
        replace hk1 : k ≤ hs.length := hk1
        by_cases hkl : k < hs.length
        · repeat' (first | with_reducible refine inw ?_ | simp (disch := omega) only [go_sem, Nat.reduceEqDiff, ↓reduceIte, reduceCtorEq, Nat.reduceAdd, Nat.reduceMul, Int.reduceToNat, List.reduceReplicate, Nat.reduceLeDiff, Nat.reduceLT, Int.reduceLT, Int.reduceLE, Int.reduceEq] | with_reducible refine giv_intro fun _h => ?_ | with_reducible refine alt_intro ?_ fun _h => ?_ | with_reducible refine pickD_nil ?_ | (with_reducible refine brc (fun _h => ?_) fun _h => ?_) <;> first | (exfalso; omega) | simp only [decide_eq_false _h] | simp only [(_h : (_ : Bool) = _)] | simp only [decide_eq_true _h] | skip)
          (refine loopC hS [0, 1, 8] (by simp only [go_sem, Nat.reduceEqDiff, ↓reduceIte, reduceCtorEq, Nat.reduceAdd, Nat.reduceMul, Int.reduceToNat, List.reduceReplicate, Nat.reduceLeDiff, Nat.reduceLT, Int.reduceLT, Int.reduceLE, Int.reduceEq]; try rfl) (fun (i : Nat) => [(9, intA 0)]) (fun (i : Nat) => []) (fun (i : Nat) => True) (fun (i : Nat) => 0) (0) ?h08 ?hn8 ?rd8; case hn8 => (intro s; first | rfl | (rcases s with ⟨_, _⟩; rfl) | (rcases s with ⟨_, _, _⟩; rfl) | (rcases s with ⟨_, _, _, _⟩; rfl) | (rcases s with ⟨_, _, _, _, _⟩; rfl)))
          · simp (disch := omega) only [go_sem, Nat.reduceEqDiff, ↓reduceIte, reduceCtorEq, Nat.reduceAdd, Nat.reduceMul, Int.reduceToNat, List.reduceReplicate, Nat.reduceLeDiff, Nat.reduceLT, Int.reduceLT, Int.reduceLE, Int.reduceEq]
          rintro i _
          repeat' (first | with_reducible refine inw ?_ | simp (disch := omega) only [go_sem, Nat.reduceEqDiff, ↓reduceIte, reduceCtorEq, Nat.reduceAdd, Nat.reduceMul, Int.reduceToNat, List.reduceReplicate, Nat.reduceLeDiff, Nat.reduceLT, Int.reduceLT, Int.reduceLE, Int.reduceEq] | with_reducible refine giv_intro fun _h => ?_ | with_reducible refine alt_intro ?_ fun _h => ?_ | with_reducible refine pickD_nil ?_ | (with_reducible refine brc (fun _h => ?_) fun _h => ?_) <;> first | (exfalso; omega) | simp only [decide_eq_false _h] | simp only [(_h : (_ : Bool) = _)] | simp only [decide_eq_true _h] | skip)
          exact ⟨k + 1, ⟨by omega, by omega⟩, by omega⟩
        · repeat' (first | with_reducible refine inw ?_ | simp (disch := omega) only [go_sem, Nat.reduceEqDiff, ↓reduceIte, reduceCtorEq, Nat.reduceAdd, Nat.reduceMul, Int.reduceToNat, List.reduceReplicate, Nat.reduceLeDiff, Nat.reduceLT, Int.reduceLT, Int.reduceLE, Int.reduceEq] | with_reducible refine giv_intro fun _h => ?_ | with_reducible refine alt_intro ?_ fun _h => ?_ | with_reducible refine pickD_nil ?_ | (with_reducible refine brc (fun _h => ?_) fun _h => ?_) <;> first | (exfalso; omega) | simp only [decide_eq_false _h] | simp only [(_h : (_ : Bool) = _)] | simp only [decide_eq_true _h] | skip)
          (refine loopC hS [1] (by simp only [go_sem, Nat.reduceEqDiff, ↓reduceIte, reduceCtorEq, Nat.reduceAdd, Nat.reduceMul, Int.reduceToNat, List.reduceReplicate, Nat.reduceLeDiff, Nat.reduceLT, Int.reduceLT, Int.reduceLE, Int.reduceEq]; try rfl) (fun (i : Nat) => [(12, intA (-1)), (11, intA (-1))]) (fun (i : Nat) => []) (fun (i : Nat) => True) (fun (i : Nat) => 0) (0) ?h09 ?hn9 ?rd9; case hn9 => (intro s; first | rfl | (rcases s with ⟨_, _⟩; rfl) | (rcases s with ⟨_, _, _⟩; rfl) | (rcases s with ⟨_, _, _, _⟩; rfl) | (rcases s with ⟨_, _, _, _, _⟩; rfl)))
          · simp (disch := omega) only [go_sem, Nat.reduceEqDiff, ↓reduceIte, reduceCtorEq, Nat.reduceAdd, Nat.reduceMul, Int.reduceToNat, List.reduceReplicate, Nat.reduceLeDiff, Nat.reduceLT, Int.reduceLT, Int.reduceLE, Int.reduceEq]
            rfl
          rintro i _
          repeat' (first | with_reducible refine inw ?_ | simp (disch := omega) only [go_sem, Nat.reduceEqDiff, ↓reduceIte, reduceCtorEq, Nat.reduceAdd, Nat.reduceMul, Int.reduceToNat, List.reduceReplicate, Nat.reduceLeDiff, Nat.reduceLT, Int.reduceLT, Int.reduceLE, Int.reduceEq] | with_reducible refine giv_intro fun _h => ?_ | with_reducible refine alt_intro ?_ fun _h => ?_ | with_reducible refine pickD_nil ?_ | (with_reducible refine brc (fun _h => ?_) fun _h => ?_) <;> first | (exfalso; omega) | simp only [decide_eq_false _h] | simp only [(_h : (_ : Bool) = _)] | simp only [decide_eq_true _h] | skip)
          (refine loopC hS [1] (by simp only [go_sem, Nat.reduceEqDiff, ↓reduceIte, reduceCtorEq, Nat.reduceAdd, Nat.reduceMul, Int.reduceToNat, List.reduceReplicate, Nat.reduceLeDiff, Nat.reduceLT, Int.reduceLT, Int.reduceLE, Int.reduceEq]; try rfl) (fun (i : Nat) => [(13, intA 0), (11, intA (-1))]) (fun (i : Nat) => []) (fun (i : Nat) => True) (fun (i : Nat) => 0) (0) ?h010 ?hn10 ?rd10; case hn10 => (intro s; first | rfl | (rcases s with ⟨_, _⟩; rfl) | (rcases s with ⟨_, _, _⟩; rfl) | (rcases s with ⟨_, _, _, _⟩; rfl) | (rcases s with ⟨_, _, _, _, _⟩; rfl)))
          · simp (disch := omega) only [go_sem, Nat.reduceEqDiff, ↓reduceIte, reduceCtorEq, Nat.reduceAdd, Nat.reduceMul, Int.reduceToNat, List.reduceReplicate, Nat.reduceLeDiff, Nat.reduceLT, Int.reduceLT, Int.reduceLE, Int.reduceEq]
          rintro i _
          repeat' (first | with_reducible refine inw ?_ | simp (disch := omega) only [go_sem, Nat.reduceEqDiff, ↓reduceIte, reduceCtorEq, Nat.reduceAdd, Nat.reduceMul, Int.reduceToNat, List.reduceReplicate, Nat.reduceLeDiff, Nat.reduceLT, Int.reduceLT, Int.reduceLE, Int.reduceEq] | with_reducible refine giv_intro fun _h => ?_ | with_reducible refine alt_intro ?_ fun _h => ?_ | with_reducible refine pickD_nil ?_ | (with_reducible refine brc (fun _h => ?_) fun _h => ?_) <;> first | (exfalso; omega) | simp only [decide_eq_false _h] | simp only [(_h : (_ : Bool) = _)] | simp only [decide_eq_true _h] | skip)
          rfl
      · (refine fn_look s16_ok (by simp) (by intro k; simp only [go_sem, Nat.reduceEqDiff, ↓reduceIte, reduceCtorEq, Nat.reduceAdd, Nat.reduceMul, Int.reduceToNat, List.reduceReplicate, Nat.reduceLeDiff, Nat.reduceLT, Int.reduceLT, Int.reduceLE, Int.reduceEq]) fun S hS => cwp_sound _ _ _ _ ?_; simp (disch := omega) only [s16, go_sem, Nat.reduceEqDiff, ↓reduceIte, reduceCtorEq, Nat.reduceAdd, Nat.reduceMul, Int.reduceToNat, List.reduceReplicate, Nat.reduceLeDiff, Nat.reduceLT, Int.reduceLT, Int.reduceLE, Int.reduceEq])
        repeat' (first | with_reducible refine inw ?_ | simp (disch := omega) only [go_sem, Nat.reduceEqDiff, ↓reduceIte, reduceCtorEq, Nat.reduceAdd, Nat.reduceMul, Int.reduceToNat, List.reduceReplicate, Nat.reduceLeDiff, Nat.reduceLT, Int.reduceLT, Int.reduceLE, Int.reduceEq] | (with_reducible apply call (c1)); (focus simp (disch := omega) only [go_sem, Nat.reduceEqDiff, ↓reduceIte, reduceCtorEq, Nat.reduceAdd, Nat.reduceMul, Int.reduceToNat, List.reduceReplicate, Nat.reduceLeDiff, Nat.reduceLT, Int.reduceLT, Int.reduceLE, Int.reduceEq] <;> rfl) | (with_reducible apply call (c2)); (focus simp (disch := omega) only [go_sem, Nat.reduceEqDiff, ↓reduceIte, reduceCtorEq, Nat.reduceAdd, Nat.reduceMul, Int.reduceToNat, List.reduceReplicate, Nat.reduceLeDiff, Nat.reduceLT, Int.reduceLT, Int.reduceLE, Int.reduceEq] <;> rfl) | with_reducible refine giv_intro fun _h => ?_ | with_reducible refine alt_intro ?_ fun _h => ?_ | with_reducible refine pickD_nil ?_ | (with_reducible refine brc (fun _h => ?_) fun _h => ?_) <;> first | (exfalso; omega) | simp only [decide_eq_false _h] | simp only [(_h : (_ : Bool) = _)] | simp only [decide_eq_true _h] | skip)
        refine callN (copied_ok l lsm (by omega)) rfl ?_
        rintro L' r ⟨rfl, rfl⟩
        simp only [own, nm_stk, List.nil_append, List.length_nil, Nat.zero_add]
        repeat' (first | with_reducible refine inw ?_ | simp (disch := omega) only [go_sem, Nat.reduceEqDiff, ↓reduceIte, reduceCtorEq, Nat.reduceAdd, Nat.reduceMul, Int.reduceToNat, List.reduceReplicate, Nat.reduceLeDiff, Nat.reduceLT, Int.reduceLT, Int.reduceLE, Int.reduceEq] | with_reducible refine giv_intro fun _h => ?_ | with_reducible refine alt_intro ?_ fun _h => ?_ | with_reducible refine pickD_nil ?_ | (with_reducible refine brc (fun _h => ?_) fun _h => ?_) <;> first | (exfalso; omega) | simp only [decide_eq_false _h] | simp only [(_h : (_ : Bool) = _)] | simp only [decide_eq_true _h] | skip)
        (refine loopC hS [0, 1] (by simp only [go_sem, Nat.reduceEqDiff, ↓reduceIte, reduceCtorEq, Nat.reduceAdd, Nat.reduceMul, Int.reduceToNat, List.reduceReplicate, Nat.reduceLeDiff, Nat.reduceLT, Int.reduceLT, Int.reduceLE, Int.reduceEq]; try rfl) (fun (⟨k, c⟩ : Nat × List Hung) => [(8, intA k)]) (fun (⟨k, c⟩ : Nat × List Hung) => [rowO 34 c]) (fun (⟨k, c⟩ : Nat × List Hung) => k ≤ hs.length ∧ c.length = l.length ∧ Hds c ∧ Ends c ∧ hooksF l.length hs l = hooksF l.length (hs.drop k) c) (fun (⟨k, c⟩ : Nat × List Hung) => hs.length - k) ((0, l)) ?h011 ?hn11 ?rd11; case hn11 => (intro s; first | rfl | (rcases s with ⟨_, _⟩; rfl) | (rcases s with ⟨_, _, _⟩; rfl) | (rcases s with ⟨_, _, _, _⟩; rfl) | (rcases s with ⟨_, _, _, _, _⟩; rfl)))
        · simp (disch := omega) only [go_sem, Nat.reduceEqDiff, ↓reduceIte, reduceCtorEq, Nat.reduceAdd, Nat.reduceMul, Int.reduceToNat, List.reduceReplicate, Nat.reduceLeDiff, Nat.reduceLT, Int.reduceLT, Int.reduceLE, Int.reduceEq]; simp
          exact ⟨v2, v3⟩
        rintro ⟨k, c⟩ ⟨hk1, hc, hh, hE, hI⟩
        replace hk1 : k ≤ hs.length := hk1
        replace hc : c.length = l.length := hc
        replace hh : Hds c := hh
        replace hE : Ends c := hE
        replace hI : hooksF l.length hs l = hooksF l.length (hs.drop k) c := hI
        by_cases hkl : k < hs.length
        · rw [nth_drop hkl, hooksF] at hI
          have hm := goodK_most hk (nth_mem hkl)
          have hsd := goodK_side hk (nth_mem hkl)
          generalize hgen : nth hs k = h at *
          repeat' (first | with_reducible refine inw ?_ | simp (disch := omega) only [go_sem, Nat.reduceEqDiff, ↓reduceIte, reduceCtorEq, Nat.reduceAdd, Nat.reduceMul, Int.reduceToNat, List.reduceReplicate, Nat.reduceLeDiff, Nat.reduceLT, Int.reduceLT, Int.reduceLE, Int.reduceEq, hgen] | with_reducible refine giv_intro fun _h => ?_ | with_reducible refine alt_intro ?_ fun _h => ?_ | with_reducible refine pickD_nil ?_ | (with_reducible refine brc (fun _h => ?_) fun _h => ?_) <;> first | (exfalso; omega) | simp only [decide_eq_false _h] | simp only [(_h : (_ : Bool) = _)] | simp only [decide_eq_true _h] | skip)
          (refine loopC hS [0, 1, 8] (by simp only [go_sem, Nat.reduceEqDiff, ↓reduceIte, reduceCtorEq, Nat.reduceAdd, Nat.reduceMul, Int.reduceToNat, List.reduceReplicate, Nat.reduceLeDiff, Nat.reduceLT, Int.reduceLT, Int.reduceLE, Int.reduceEq]; try rfl) (fun (⟨i, d⟩ : Nat × List Hung) => [(9, intA i)]) (fun (⟨i, d⟩ : Nat × List Hung) => [rowO 34 d]) (fun (⟨i, d⟩ : Nat × List Hung) => i ≤ l.length ∧ d.length = l.length ∧ Hds d ∧ Ends d ∧ hookG h l.length 0 c = hookG h (l.length - i) i d) (fun (⟨i, d⟩ : Nat × List Hung) => l.length - i) ((0, c)) ?h012 ?hn12 ?rd12; case hn12 => (intro s; first | rfl | (rcases s with ⟨_, _⟩; rfl) | (rcases s with ⟨_, _, _⟩; rfl) | (rcases s with ⟨_, _, _, _⟩; rfl) | (rcases s with ⟨_, _, _, _, _⟩; rfl)))
          · simp (disch := omega) only [go_sem, Nat.reduceEqDiff, ↓reduceIte, reduceCtorEq, Nat.reduceAdd, Nat.reduceMul, Int.reduceToNat, List.reduceReplicate, Nat.reduceLeDiff, Nat.reduceLT, Int.reduceLT, Int.reduceLE, Int.reduceEq]
            exact ⟨Nat.zero_le _, hc, hh, hE, rfl⟩
          rintro ⟨i, d⟩ ⟨hi, hd, hh', hE', hG⟩
          replace hi : i ≤ l.length := hi
          replace hd : d.length = l.length := hd
          replace hh' : Hds d := hh'
          replace hE' : Ends d := hE'
          replace hG : hookG h l.length 0 c = hookG h (l.length - i) i d := hG
          by_cases hil : i < l.length
          · rw [show l.length - i = (l.length - (i + 1)) + 1 by omega, hookG] at hG
            have hid : i < d.length := by omega
            have d1 := rIs_ok h.1 (nth d i).1
            have d2 := rParent_ok d hh' (by omega) i hid h hm hsd
            have b1 := hungBy_len h hid
            have b2 := hungBy_ok h hid hh' hE'
            have ho : hungBy h d i = if (nth d i).2.1 = -2 ∧ hasB (nth d i).1 h.1 = true ∧ 0 ≤ parI h d i then setHd d i (parI h d i) h.2.2.2.2.2 else d := rfl
            have fin : ∀ e, hungBy h d i = e → ∃ s' : Nat × List Hung, (l.length - s'.1 < l.length - i ∧ s'.1 ≤ l.length ∧ s'.2.length = l.length ∧ Hds s'.2 ∧ Ends s'.2 ∧ hookG h l.length 0 c = hookG h (l.length - s'.1) s'.1 s'.2) ∧ (i : Int) + 1 = s'.1 ∧ cellsL e = cellsL s'.2 := fun e he => by
              rw [he] at b1 b2 hG
              refine ⟨(i + 1, e), ?_⟩
              dsimp only
              exact ⟨⟨by omega, by omega, by omega, b2.1, b2.2, hG⟩, by omega, rfl⟩
            repeat' (first | with_reducible refine inw ?_ | simp (disch := omega) only [go_sem, Nat.reduceEqDiff, ↓reduceIte, reduceCtorEq, Nat.reduceAdd, Nat.reduceMul, Int.reduceToNat, List.reduceReplicate, Nat.reduceLeDiff, Nat.reduceLT, Int.reduceLT, Int.reduceLE, Int.reduceEq, get_h0, get_h1, get_h2, get_hh, put_h1, put_hh2, putAt_len, hgen] | (with_reducible apply call_D (d1)); (focus simp (disch := omega) only [go_sem, Nat.reduceEqDiff, ↓reduceIte, reduceCtorEq, Nat.reduceAdd, Nat.reduceMul, Int.reduceToNat, List.reduceReplicate, Nat.reduceLeDiff, Nat.reduceLT, Int.reduceLT, Int.reduceLE, Int.reduceEq, get_h0, get_h1, get_h2, get_hh, put_h1, put_hh2, putAt_len, hgen] <;> rfl) | (with_reducible apply call_lend (d2)); (focus simp (disch := omega) only [go_sem, Nat.reduceEqDiff, ↓reduceIte, reduceCtorEq, Nat.reduceAdd, Nat.reduceMul, Int.reduceToNat, List.reduceReplicate, Nat.reduceLeDiff, Nat.reduceLT, Int.reduceLT, Int.reduceLE, Int.reduceEq, get_h0, get_h1, get_h2, get_hh, put_h1, put_hh2, putAt_len, hgen] <;> rfl); (focus rfl) | with_reducible refine giv_intro fun _h => ?_ | with_reducible refine alt_intro ?_ fun _h => ?_ | with_reducible refine pickD_nil ?_ | (with_reducible refine brc (fun _h => ?_) fun _h => ?_) <;> first | (exfalso; omega) | simp only [decide_eq_false _h] | simp only [(_h : (_ : Bool) = _)] | simp only [decide_eq_true _h] | skip)
            all_goals first
              | exact fin _ (by rw [ho, if_pos ⟨by omega, by assumption, by assumption⟩]; rfl)
              | exact fin _ (by rw [ho, if_neg (fun q => by omega)])
              | exact fin _ (by rw [ho, if_neg (fun q => by rw [q.2.1] at _h; cases _h)])
          · rw [show l.length - i = 0 by omega, hookG] at hG
            repeat' (first | with_reducible refine inw ?_ | simp (disch := omega) only [go_sem, Nat.reduceEqDiff, ↓reduceIte, reduceCtorEq, Nat.reduceAdd, Nat.reduceMul, Int.reduceToNat, List.reduceReplicate, Nat.reduceLeDiff, Nat.reduceLT, Int.reduceLT, Int.reduceLE, Int.reduceEq] | with_reducible refine giv_intro fun _h => ?_ | with_reducible refine alt_intro ?_ fun _h => ?_ | with_reducible refine pickD_nil ?_ | (with_reducible refine brc (fun _h => ?_) fun _h => ?_) <;> first | (exfalso; omega) | simp only [decide_eq_false _h] | simp only [(_h : (_ : Bool) = _)] | simp only [decide_eq_true _h] | skip)
            refine ⟨(k + 1, d), ?_⟩
            dsimp only
            exact ⟨⟨by omega, by omega, hd, hh', hE', by rw [hI, hG]⟩, by omega, rfl⟩
        · rw [List.drop_eq_nil_of_le (by omega), hooksF] at hI
          rw [hangL, hI]
          have hcl := hc
          repeat' (first | with_reducible refine inw ?_ | simp (disch := omega) only [go_sem, Nat.reduceEqDiff, ↓reduceIte, reduceCtorEq, Nat.reduceAdd, Nat.reduceMul, Int.reduceToNat, List.reduceReplicate, Nat.reduceLeDiff, Nat.reduceLT, Int.reduceLT, Int.reduceLE, Int.reduceEq] | with_reducible refine giv_intro fun _h => ?_ | with_reducible refine alt_intro ?_ fun _h => ?_ | with_reducible refine pickD_nil ?_ | (with_reducible refine brc (fun _h => ?_) fun _h => ?_) <;> first | (exfalso; omega) | simp only [decide_eq_false _h] | simp only [(_h : (_ : Bool) = _)] | simp only [decide_eq_true _h] | skip)
          (refine loopC hS [1] (by simp only [go_sem, Nat.reduceEqDiff, ↓reduceIte, reduceCtorEq, Nat.reduceAdd, Nat.reduceMul, Int.reduceToNat, List.reduceReplicate, Nat.reduceLeDiff, Nat.reduceLT, Int.reduceLT, Int.reduceLE, Int.reduceEq]; try rfl) (fun (⟨k, r⟩ : Nat × Int) => [(12, intA ((k : Int) - 1)), (11, intA r)]) (fun (⟨k, r⟩ : Nat × Int) => [rowO 34 c]) (fun (⟨k, r⟩ : Nat × Int) => k ≤ c.length ∧ FstI c k r) (fun (⟨k, r⟩ : Nat × Int) => k) ((c.length, -1)) ?h013 ?hn13 ?rd13; case hn13 => (intro s; first | rfl | (rcases s with ⟨_, _⟩; rfl) | (rcases s with ⟨_, _, _⟩; rfl) | (rcases s with ⟨_, _, _, _⟩; rfl) | (rcases s with ⟨_, _, _, _, _⟩; rfl)))
          · simp (disch := omega) only [go_sem, Nat.reduceEqDiff, ↓reduceIte, reduceCtorEq, Nat.reduceAdd, Nat.reduceMul, Int.reduceToNat, List.reduceReplicate, Nat.reduceLeDiff, Nat.reduceLT, Int.reduceLT, Int.reduceLE, Int.reduceEq]
            exact ⟨.inl ⟨rfl, fun j h1 h2 => by omega⟩, by omega⟩
          rintro ⟨k', r⟩ ⟨hk2, hF⟩
          replace hk2 : k' ≤ c.length := hk2
          replace hF : FstI c k' r := hF
          cases k' with
          | succ k' =>
            have ek : (((k' + 1 : Nat) : Int)) - 1 = k' := by omega
            have hkc : k' < c.length := by omega
            repeat' (first | with_reducible refine inw ?_ | simp (disch := omega) only [go_sem, Nat.reduceEqDiff, ↓reduceIte, reduceCtorEq, Nat.reduceAdd, Nat.reduceMul, Int.reduceToNat, List.reduceReplicate, Nat.reduceLeDiff, Nat.reduceLT, Int.reduceLT, Int.reduceLE, Int.reduceEq, ek, get_h1] | with_reducible refine giv_intro fun _h => ?_ | with_reducible refine alt_intro ?_ fun _h => ?_ | with_reducible refine pickD_nil ?_ | (with_reducible refine brc (fun _h => ?_) fun _h => ?_) <;> first | (exfalso; omega) | simp only [decide_eq_false _h] | simp only [(_h : (_ : Bool) = _)] | simp only [decide_eq_true _h] | skip)
            · exact ⟨(k', (k' : Int)), ⟨by omega, by show k' ≤ _; omega, fstI_yes hkc (by assumption)⟩, rfl, rfl⟩
            · exact ⟨(k', r), ⟨by omega, by show k' ≤ _; omega, fstI_no hF (by assumption)⟩, rfl, rfl⟩
          | zero =>
            obtain rfl := fstI_0 hF
            have h00 := rootI_0 c
            repeat' (first | with_reducible refine inw ?_ | simp (disch := omega) only [go_sem, Nat.reduceEqDiff, ↓reduceIte, reduceCtorEq, Nat.reduceAdd, Nat.reduceMul, Int.reduceToNat, List.reduceReplicate, Nat.reduceLeDiff, Nat.reduceLT, Int.reduceLT, Int.reduceLE, Int.reduceEq] | with_reducible refine giv_intro fun _h => ?_ | with_reducible refine alt_intro ?_ fun _h => ?_ | with_reducible refine pickD_nil ?_ | (with_reducible refine brc (fun _h => ?_) fun _h => ?_) <;> first | (exfalso; omega) | simp only [decide_eq_false _h] | simp only [(_h : (_ : Bool) = _)] | simp only [decide_eq_true _h] | skip)
            (refine loopC hS [1] (by simp only [go_sem, Nat.reduceEqDiff, ↓reduceIte, reduceCtorEq, Nat.reduceAdd, Nat.reduceMul, Int.reduceToNat, List.reduceReplicate, Nat.reduceLeDiff, Nat.reduceLT, Int.reduceLT, Int.reduceLE, Int.reduceEq]; try rfl) (fun (⟨i, d, r⟩ : Nat × List Hung × Int) => [(13, intA i), (11, intA r)]) (fun (⟨i, d, r⟩ : Nat × List Hung × Int) => [rowO 34 d]) (fun (⟨i, d, r⟩ : Nat × List Hung × Int) => i ≤ c.length ∧ d.length = c.length ∧ RootI c i r d) (fun (⟨i, d, r⟩ : Nat × List Hung × Int) => c.length - i) ((0, c, idxH c (-1))) ?h014 ?hn14 ?rd14; case hn14 => (intro s; first | rfl | (rcases s with ⟨_, _⟩; rfl) | (rcases s with ⟨_, _, _⟩; rfl) | (rcases s with ⟨_, _, _, _⟩; rfl) | (rcases s with ⟨_, _, _, _, _⟩; rfl)))
            · simp (disch := omega) only [go_sem, Nat.reduceEqDiff, ↓reduceIte, reduceCtorEq, Nat.reduceAdd, Nat.reduceMul, Int.reduceToNat, List.reduceReplicate, Nat.reduceLeDiff, Nat.reduceLT, Int.reduceLT, Int.reduceLE, Int.reduceEq]
              exact ⟨Nat.zero_le _, h00⟩
            rintro ⟨i, d, r⟩ ⟨hi, hd, hG⟩
            replace hi : i ≤ c.length := hi
            replace hd : d.length = c.length := hd
            replace hG : RootI c i r d := hG
            by_cases hil : i < c.length
            · have hid : i < d.length := by omega
              have l1 := setHd_len (l := d) hid (-1) ⟨#[114, 111, 111, 116]⟩
              have l2 := setHd_len (l := d) hid r ⟨#[100, 101, 112]⟩
              have fin : ∀ (e : List Hung) (q : Int), e.length = d.length → RootI c (i + 1) q e → ∃ s' : Nat × List Hung × Int, (c.length - s'.1 < c.length - i ∧ s'.1 ≤ c.length ∧ s'.2.1.length = c.length ∧ RootI c s'.1 s'.2.2 s'.2.1) ∧ ((i : Int) + 1 = s'.1 ∧ q = s'.2.2) ∧ cellsL e = cellsL s'.2.1 := fun e q he hq => by
                refine ⟨(i + 1, e, q), ?_⟩
                dsimp only
                exact ⟨⟨by omega, by omega, by omega, hq⟩, ⟨by omega, rfl⟩, rfl⟩
              repeat' (first | with_reducible refine inw ?_ | simp (disch := omega) only [go_sem, Nat.reduceEqDiff, ↓reduceIte, reduceCtorEq, Nat.reduceAdd, Nat.reduceMul, Int.reduceToNat, List.reduceReplicate, Nat.reduceLeDiff, Nat.reduceLT, Int.reduceLT, Int.reduceLE, Int.reduceEq, get_h0, get_h1, get_h2, get_hh, put_h1, put_hh2, putAt_len] | with_reducible refine giv_intro fun _h => ?_ | with_reducible refine alt_intro ?_ fun _h => ?_ | with_reducible refine pickD_nil ?_ | (with_reducible refine brc (fun _h => ?_) fun _h => ?_) <;> first | (exfalso; omega) | simp only [decide_eq_false _h] | simp only [(_h : (_ : Bool) = _)] | simp only [decide_eq_true _h] | skip)
              all_goals first
                | exact fin _ _ rfl (rootI_no hil hG (by assumption))
                | exact fin _ _ l1 (rootI_root hil hG (by omega) (by assumption))
                | exact fin _ _ l2 (rootI_dep hil hG (by omega) (by assumption))
            · have hic : i = c.length := by omega
              subst hic
              have hz := rootI_end hG
              rw [hc] at hz
              rw [hz]
              repeat' (first | with_reducible refine inw ?_ | simp (disch := omega) only [go_sem, Nat.reduceEqDiff, ↓reduceIte, reduceCtorEq, Nat.reduceAdd, Nat.reduceMul, Int.reduceToNat, List.reduceReplicate, Nat.reduceLeDiff, Nat.reduceLT, Int.reduceLT, Int.reduceLE, Int.reduceEq] | with_reducible refine giv_intro fun _h => ?_ | with_reducible refine alt_intro ?_ fun _h => ?_ | with_reducible refine pickD_nil ?_ | (with_reducible refine brc (fun _h => ?_) fun _h => ?_) <;> first | (exfalso; omega) | simp only [decide_eq_false _h] | simp only [(_h : (_ : Bool) = _)] | simp only [decide_eq_true _h] | skip)
    · rw [hk] at c1
      rw [hangT, if_neg (by omega), if_pos hv]
      (refine fn_look s16_ok (by simp) (by intro k; simp only [go_sem, Nat.reduceEqDiff, ↓reduceIte, reduceCtorEq, Nat.reduceAdd, Nat.reduceMul, Int.reduceToNat, List.reduceReplicate, Nat.reduceLeDiff, Nat.reduceLT, Int.reduceLT, Int.reduceLE, Int.reduceEq]) fun S hS => cwp_sound _ _ _ _ ?_; simp (disch := omega) only [s16, go_sem, Nat.reduceEqDiff, ↓reduceIte, reduceCtorEq, Nat.reduceAdd, Nat.reduceMul, Int.reduceToNat, List.reduceReplicate, Nat.reduceLeDiff, Nat.reduceLT, Int.reduceLT, Int.reduceLE, Int.reduceEq])
      repeat' (first | with_reducible refine inw ?_ | simp (disch := omega) only [go_sem, Nat.reduceEqDiff, ↓reduceIte, reduceCtorEq, Nat.reduceAdd, Nat.reduceMul, Int.reduceToNat, List.reduceReplicate, Nat.reduceLeDiff, Nat.reduceLT, Int.reduceLT, Int.reduceLE, Int.reduceEq] | (with_reducible apply call (c1)); (focus simp (disch := omega) only [go_sem, Nat.reduceEqDiff, ↓reduceIte, reduceCtorEq, Nat.reduceAdd, Nat.reduceMul, Int.reduceToNat, List.reduceReplicate, Nat.reduceLeDiff, Nat.reduceLT, Int.reduceLT, Int.reduceLE, Int.reduceEq] <;> rfl) | (with_reducible apply call (c2)); (focus simp (disch := omega) only [go_sem, Nat.reduceEqDiff, ↓reduceIte, reduceCtorEq, Nat.reduceAdd, Nat.reduceMul, Int.reduceToNat, List.reduceReplicate, Nat.reduceLeDiff, Nat.reduceLT, Int.reduceLT, Int.reduceLE, Int.reduceEq] <;> rfl) | with_reducible refine giv_intro fun _h => ?_ | with_reducible refine alt_intro ?_ fun _h => ?_ | with_reducible refine pickD_nil ?_ | (with_reducible refine brc (fun _h => ?_) fun _h => ?_) <;> first | (exfalso; omega) | simp only [decide_eq_false _h] | simp only [(_h : (_ : Bool) = _)] | simp only [decide_eq_true _h] | skip)
      all_goals rfl
  · rw [hangT, if_pos hk]
    (refine fn_look s16_ok (by simp) (by intro k; simp only [go_sem, Nat.reduceEqDiff, ↓reduceIte, reduceCtorEq, Nat.reduceAdd, Nat.reduceMul, Int.reduceToNat, List.reduceReplicate, Nat.reduceLeDiff, Nat.reduceLT, Int.reduceLT, Int.reduceLE, Int.reduceEq]) fun S hS => cwp_sound _ _ _ _ ?_; simp (disch := omega) only [s16, go_sem, Nat.reduceEqDiff, ↓reduceIte, reduceCtorEq, Nat.reduceAdd, Nat.reduceMul, Int.reduceToNat, List.reduceReplicate, Nat.reduceLeDiff, Nat.reduceLT, Int.reduceLT, Int.reduceLE, Int.reduceEq])
    repeat' (first | with_reducible refine inw ?_ | simp (disch := omega) only [go_sem, Nat.reduceEqDiff, ↓reduceIte, reduceCtorEq, Nat.reduceAdd, Nat.reduceMul, Int.reduceToNat, List.reduceReplicate, Nat.reduceLeDiff, Nat.reduceLT, Int.reduceLT, Int.reduceLE, Int.reduceEq] | (with_reducible apply call (c1)); (focus simp (disch := omega) only [go_sem, Nat.reduceEqDiff, ↓reduceIte, reduceCtorEq, Nat.reduceAdd, Nat.reduceMul, Int.reduceToNat, List.reduceReplicate, Nat.reduceLeDiff, Nat.reduceLT, Int.reduceLT, Int.reduceLE, Int.reduceEq] <;> rfl) | with_reducible refine giv_intro fun _h => ?_ | with_reducible refine alt_intro ?_ fun _h => ?_ | with_reducible refine pickD_nil ?_ | (with_reducible refine brc (fun _h => ?_) fun _h => ?_) <;> first | (exfalso; omega) | simp only [decide_eq_false _h] | simp only [(_h : (_ : Bool) = _)] | simp only [decide_eq_true _h] | skip)
    all_goals rfl
/-- ablaut/ablautlaw21.DependHangs: 2 parameters, 0 captured -/
def s3 : SC := .seq (.reg [o1 4 (.mv (cB false))])
  (.seq (.seq (.reg [o1 9 (.mv (.t 1)),
     o1 10 (.call (.f 12) [(.t 9)]),
     o1 11 (.mv (.t 10)),
     oF 12 (.mv (.t 0)) 11,
     oF 13 (.call (.f 13) [(.t 12)]) 11,
     oF 14 (.bin .gtr (.t 13) (cI 100000)) 11,
     o1 15 (.pick (.t 11) (cB true) (.t 14))])
    (.cond (.t 15) (.seq (.reg [o1 16 (.call (.f 14) []),
       o1 4 (.mv (.t 16))])
      (.ret)) (.skip)))
   (.seq (.reg [o1 18 (.mv (.t 0)),
     o1 19 (.mv (.t 1)),
     o1 20 (.call (.f 15) [(.t 18), (.t 19)]),
     o1 17 (.mv (.t 20)),
     o1 21 (.ext (.t 17) 0),
     o1 22 (.ext (.t 17) 1),
     o1 5 (.mv (.t 21)),
     o1 6 (.mv (.t 22))])
    (.seq (.reg [o1 24 (.mv (.t 0)),
      o1 25 (.mv (.t 1)),
      o1 26 (.call (.f 16) [(.t 24), (.t 25)]),
      o1 23 (.mv (.t 26)),
      o1 27 (.ext (.t 23) 0),
      o1 28 (.ext (.t 23) 1),
      o1 7 (.mv (.t 27)),
      o1 8 (.mv (.t 28))])
     (.seq (.reg [o1 29 (.mv (.t 5)),
       o1 30 (.mv (.t 7)),
       o1 31 (.call (.f 17) [(.t 29), (.t 30)]),
       o1 32 (.mv (.t 31)),
       oT 33 (.mv (.t 6)) 32,
       oT 34 (.mv (.t 8)) 32,
       oT 35 (.bin .eql (.t 33) (.t 34)) 32,
       o1 36 (.pick (.t 32) (.t 35) (cB false)),
       o1 37 (.mv (.t 36)),
       oT 38 (.call (.f 14) []) 37,
       o1 39 (.pick (.t 37) (.t 38) (cB false)),
       o1 4 (.mv (.t 39))])
      (.ret)))))
theorem s3_ok : lookF Try.prog 3 = some (s3, 40, [.tmp 4]) := by kernel_rfl
theorem DependHangs_ok (hs : List Hook) (l : List Hung) (hk : TK hs) (hl : TH l) : Fn P 3 [sl hs, sl l] (boolA true) := by
  have k0 := over_ok l
  have k1 := hooks_ok hs
  by_cases h1 : overB l = false
  · rw [h1] at k0
    by_cases h2 : hooksN hs ≤ 100000
    · have ls := over_sm hl h1
      have hs' := hooks_sm hk h2
      have c1 := hang_ok hs l hs' ls
      have c2 := rHang_ok hs l hs' ls
      generalize hangT hs l = t at *
      generalize hooksN hs = n at *
      (refine fn_look s3_ok (by simp) (by intro k; simp only [go_sem, Nat.reduceEqDiff, ↓reduceIte, reduceCtorEq, Nat.reduceAdd, Nat.reduceMul, Int.reduceToNat, List.reduceReplicate, Nat.reduceLeDiff, Nat.reduceLT, Int.reduceLT, Int.reduceLE, Int.reduceEq]) fun S hS => cwp_sound _ _ _ _ ?_; simp (disch := omega) only [s3, go_sem, Nat.reduceEqDiff, ↓reduceIte, reduceCtorEq, Nat.reduceAdd, Nat.reduceMul, Int.reduceToNat, List.reduceReplicate, Nat.reduceLeDiff, Nat.reduceLT, Int.reduceLT, Int.reduceLE, Int.reduceEq])
      repeat' (first | with_reducible refine inw ?_ | simp (disch := omega) only [go_sem, Nat.reduceEqDiff, ↓reduceIte, reduceCtorEq, Nat.reduceAdd, Nat.reduceMul, Int.reduceToNat, List.reduceReplicate, Nat.reduceLeDiff, Nat.reduceLT, Int.reduceLT, Int.reduceLE, Int.reduceEq] | (with_reducible apply call (k0)); (focus simp (disch := omega) only [go_sem, Nat.reduceEqDiff, ↓reduceIte, reduceCtorEq, Nat.reduceAdd, Nat.reduceMul, Int.reduceToNat, List.reduceReplicate, Nat.reduceLeDiff, Nat.reduceLT, Int.reduceLT, Int.reduceLE, Int.reduceEq] <;> rfl) | (with_reducible apply call (k1)); (focus simp (disch := omega) only [go_sem, Nat.reduceEqDiff, ↓reduceIte, reduceCtorEq, Nat.reduceAdd, Nat.reduceMul, Int.reduceToNat, List.reduceReplicate, Nat.reduceLeDiff, Nat.reduceLT, Int.reduceLT, Int.reduceLE, Int.reduceEq] <;> rfl) | (with_reducible apply call (c1)); (focus simp (disch := omega) only [go_sem, Nat.reduceEqDiff, ↓reduceIte, reduceCtorEq, Nat.reduceAdd, Nat.reduceMul, Int.reduceToNat, List.reduceReplicate, Nat.reduceLeDiff, Nat.reduceLT, Int.reduceLT, Int.reduceLE, Int.reduceEq] <;> rfl) | (with_reducible apply call (c2)); (focus simp (disch := omega) only [go_sem, Nat.reduceEqDiff, ↓reduceIte, reduceCtorEq, Nat.reduceAdd, Nat.reduceMul, Int.reduceToNat, List.reduceReplicate, Nat.reduceLeDiff, Nat.reduceLT, Int.reduceLT, Int.reduceLE, Int.reduceEq] <;> rfl) | (with_reducible apply call (same_ok _ _)); (focus simp (disch := omega) only [go_sem, Nat.reduceEqDiff, ↓reduceIte, reduceCtorEq, Nat.reduceAdd, Nat.reduceMul, Int.reduceToNat, List.reduceReplicate, Nat.reduceLeDiff, Nat.reduceLT, Int.reduceLT, Int.reduceLE, Int.reduceEq] <;> rfl) | (with_reducible apply call (known_ok)); (focus simp (disch := omega) only [go_sem, Nat.reduceEqDiff, ↓reduceIte, reduceCtorEq, Nat.reduceAdd, Nat.reduceMul, Int.reduceToNat, List.reduceReplicate, Nat.reduceLeDiff, Nat.reduceLT, Int.reduceLT, Int.reduceLE, Int.reduceEq] <;> rfl) | with_reducible refine giv_intro fun _h => ?_ | with_reducible refine alt_intro ?_ fun _h => ?_ | with_reducible refine pickD_nil ?_ | (with_reducible refine brc (fun _h => ?_) fun _h => ?_) <;> first | (exfalso; omega) | simp only [decide_eq_false _h] | simp only [(_h : (_ : Bool) = _)] | simp only [decide_eq_true _h] | skip)
    · generalize hooksN hs = n at *
      (refine fn_look s3_ok (by simp) (by intro k; simp only [go_sem, Nat.reduceEqDiff, ↓reduceIte, reduceCtorEq, Nat.reduceAdd, Nat.reduceMul, Int.reduceToNat, List.reduceReplicate, Nat.reduceLeDiff, Nat.reduceLT, Int.reduceLT, Int.reduceLE, Int.reduceEq]) fun S hS => cwp_sound _ _ _ _ ?_; simp (disch := omega) only [s3, go_sem, Nat.reduceEqDiff, ↓reduceIte, reduceCtorEq, Nat.reduceAdd, Nat.reduceMul, Int.reduceToNat, List.reduceReplicate, Nat.reduceLeDiff, Nat.reduceLT, Int.reduceLT, Int.reduceLE, Int.reduceEq])
      repeat' (first | with_reducible refine inw ?_ | simp (disch := omega) only [go_sem, Nat.reduceEqDiff, ↓reduceIte, reduceCtorEq, Nat.reduceAdd, Nat.reduceMul, Int.reduceToNat, List.reduceReplicate, Nat.reduceLeDiff, Nat.reduceLT, Int.reduceLT, Int.reduceLE, Int.reduceEq] | (with_reducible apply call (k0)); (focus simp (disch := omega) only [go_sem, Nat.reduceEqDiff, ↓reduceIte, reduceCtorEq, Nat.reduceAdd, Nat.reduceMul, Int.reduceToNat, List.reduceReplicate, Nat.reduceLeDiff, Nat.reduceLT, Int.reduceLT, Int.reduceLE, Int.reduceEq] <;> rfl) | (with_reducible apply call (k1)); (focus simp (disch := omega) only [go_sem, Nat.reduceEqDiff, ↓reduceIte, reduceCtorEq, Nat.reduceAdd, Nat.reduceMul, Int.reduceToNat, List.reduceReplicate, Nat.reduceLeDiff, Nat.reduceLT, Int.reduceLT, Int.reduceLE, Int.reduceEq] <;> rfl) | (with_reducible apply call (known_ok)); (focus simp (disch := omega) only [go_sem, Nat.reduceEqDiff, ↓reduceIte, reduceCtorEq, Nat.reduceAdd, Nat.reduceMul, Int.reduceToNat, List.reduceReplicate, Nat.reduceLeDiff, Nat.reduceLT, Int.reduceLT, Int.reduceLE, Int.reduceEq] <;> rfl) | with_reducible refine giv_intro fun _h => ?_ | with_reducible refine alt_intro ?_ fun _h => ?_ | with_reducible refine pickD_nil ?_ | (with_reducible refine brc (fun _h => ?_) fun _h => ?_) <;> first | (exfalso; omega) | simp only [decide_eq_false _h] | simp only [(_h : (_ : Bool) = _)] | simp only [decide_eq_true _h] | skip)
  · rw [show overB l = true by simpa using h1] at k0
    (refine fn_look s3_ok (by simp) (by intro k; simp only [go_sem, Nat.reduceEqDiff, ↓reduceIte, reduceCtorEq, Nat.reduceAdd, Nat.reduceMul, Int.reduceToNat, List.reduceReplicate, Nat.reduceLeDiff, Nat.reduceLT, Int.reduceLT, Int.reduceLE, Int.reduceEq]) fun S hS => cwp_sound _ _ _ _ ?_; simp (disch := omega) only [s3, go_sem, Nat.reduceEqDiff, ↓reduceIte, reduceCtorEq, Nat.reduceAdd, Nat.reduceMul, Int.reduceToNat, List.reduceReplicate, Nat.reduceLeDiff, Nat.reduceLT, Int.reduceLT, Int.reduceLE, Int.reduceEq])
    repeat' (first | with_reducible refine inw ?_ | simp (disch := omega) only [go_sem, Nat.reduceEqDiff, ↓reduceIte, reduceCtorEq, Nat.reduceAdd, Nat.reduceMul, Int.reduceToNat, List.reduceReplicate, Nat.reduceLeDiff, Nat.reduceLT, Int.reduceLT, Int.reduceLE, Int.reduceEq] | (with_reducible apply call (k0)); (focus simp (disch := omega) only [go_sem, Nat.reduceEqDiff, ↓reduceIte, reduceCtorEq, Nat.reduceAdd, Nat.reduceMul, Int.reduceToNat, List.reduceReplicate, Nat.reduceLeDiff, Nat.reduceLT, Int.reduceLT, Int.reduceLE, Int.reduceEq] <;> rfl) | (with_reducible apply call (known_ok)); (focus simp (disch := omega) only [go_sem, Nat.reduceEqDiff, ↓reduceIte, reduceCtorEq, Nat.reduceAdd, Nat.reduceMul, Int.reduceToNat, List.reduceReplicate, Nat.reduceLeDiff, Nat.reduceLT, Int.reduceLT, Int.reduceLE, Int.reduceEq] <;> rfl) | with_reducible refine giv_intro fun _h => ?_ | with_reducible refine alt_intro ?_ fun _h => ?_ | with_reducible refine pickD_nil ?_ | (with_reducible refine brc (fun _h => ?_) fun _h => ?_) <;> first | (exfalso; omega) | simp only [decide_eq_false _h] | simp only [(_h : (_ : Bool) = _)] | simp only [decide_eq_true _h] | skip)
end Go.Proofs.Ytkedbkdbnmmkhaa.Ev

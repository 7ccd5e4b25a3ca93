/- Where a hook hangs a node. -/
import Derived.Test.YtkedbkdbnmmkhaaZFnKd
set_option linter.unusedVariables false
set_option linter.unusedSimpArgs false
namespace Go.Proofs.Ytkedbkdbnmmkhaa.Ev
open Go Go.Proofs

/-- Is a place passed over; does it take node i; what stays open behind it. -/
def skipP (l : List Hung) (o : Bool) (at' : Int) : Bool := !o || (decide (at' < 0) || decide ((l.length : Int) ≤ at'))
def takeP (h : Hook) (l : List Hung) (i at' : Int) : Bool := hasB (nth l at'.toNat).1 h.2.1 && !hgB l at' i
def openP (h : Hook) (l : List Hung) (o : Bool) (at' : Int) : Bool := if skipP l o at' = true then o else decide (h.2.2.1.length = 0) || !hasB (nth l at'.toNat).1 h.2.2.1
def hitP (h : Hook) (l : List Hung) (i : Int) (o : Bool) (at' : Int) : Bool := !skipP l o at' && takeP h l i at'
def parF (h : Hook) (l : List Hung) (i : Int) : Nat → Int → Bool → Bool → Int
  | 0, _, _, _ => -1
  | n + 1, far, a, b => if hitP h l i a (i - far) = true then i - far else if hitP h l i b (i + far) = true then i + far else parF h l i n (far + 1) (openP h l a (i - far)) (openP h l b (i + far))
def parI (h : Hook) (l : List Hung) (i : Int) : Int := parF h l i h.2.2.2.2.1.toNat 1 (decide (h.2.2.2.1 ≤ 0)) (decide (0 ≤ h.2.2.2.1))
theorem hitP_in {h : Hook} {l : List Hung} {i : Int} {o : Bool} {a : Int} (hh : hitP h l i o a = true) : 0 ≤ a ∧ a < l.length ∧ hgB l a i = false := by
  simp only [hitP, skipP, takeP, Bool.and_eq_true, Bool.not_eq_true', Bool.or_eq_false_iff, decide_eq_false_iff_not] at hh
  exact ⟨by omega, by omega, hh.2.2⟩
theorem parF_in (h : Hook) (l : List Hung) (i : Int) : ∀ (n : Nat) (far : Int) (a b : Bool), parF h l i n far a b = -1 ∨ (0 ≤ parF h l i n far a b ∧ parF h l i n far a b < l.length ∧ hgB l (parF h l i n far a b) i = false)
  | 0, far, a, b => .inl rfl
  | n + 1, far, a, b => by
    rw [parF]
    by_cases h1 : hitP h l i a (i - far) = true
    · rw [if_pos h1]; exact .inr (hitP_in h1)
    · rw [if_neg h1]
      by_cases h2 : hitP h l i b (i + far) = true
      · rw [if_pos h2]; exact .inr (hitP_in h2)
      · rw [if_neg h2]; exact parF_in h l i n _ _ _
theorem parI_in (h : Hook) (l : List Hung) (i : Int) : parI h l i = -1 ∨ (0 ≤ parI h l i ∧ parI h l i < l.length ∧ hgB l (parI h l i) i = false) := parF_in h l i _ _ _ _
abbrev hookA (h : Hook) : AV := .agg [sl h.1, sl h.2.1, sl h.2.2.1, intA h.2.2.2.1, intA h.2.2.2.2.1, strA h.2.2.2.2.2]
/-- ablaut/depend.parent: 3 parameters, 0 captured -/
def s40 : SC := .seq (.reg [o1 5 (.box 57 6 (.t 2)),
   o1 6 (.mv (cI 0))])
  (.seq (.reg [o1 12 (.faddr 3 (.t 5)),
    o1 13 (.load none (.t 12)),
    o1 14 (.bin .leq (.t 13) (cI 0)),
    o1 15 (.faddr 3 (.t 5)),
    o1 16 (.load none (.t 15)),
    o1 17 (.bin .geq (.t 16) (cI 0)),
    o1 18 (.build [(.bool false), (.bool false)] [(0, 1, (.t 14)), (1, 1, (.t 17))]),
    o1 7 (.alloc 82 2 [(.bool false), (.bool false)]),
    o0 (.store 2 (.t 7) (.t 18))])
   (.seq (.seq (.reg [o1 8 (.mv (cI 1))])
     (.block 0 (.loop (.seq (.seq (.reg [o1 19 (.mv (.t 8)),
          o1 20 (.faddr 4 (.t 5)),
          o1 21 (.load none (.t 20)),
          o1 22 (.bin .leq (.t 19) (.t 21))])
         (.cond (.t 22) (.skip) (.exit 0)))
        (.seq (.block 1 (.seq (.reg [o1 25 (.mv (.t 8)),
            o1 26 (.un .neg (.t 25)),
            o1 27 (.mv (.t 8)),
            o1 28 (.build [(.int .i64 0), (.int .i64 0)] [(0, 1, (.t 26)), (1, 1, (.t 27))]),
            o1 29 (.mv (cI 0))])
           (.block 2 (.loop (.seq (.reg [o1 30 (.bin .lss (.t 29) (cI 2))])
              (.seq (.cond (.t 30) (.skip) (.exit 2))
               (.seq (.block 3 (.seq (.reg [o1 31 (.mv (.t 29)),
                   o1 32 (.ixa 2 1 false (.t 28) (.t 29)),
                   o1 9 (.mv (.t 31)),
                   o1 10 (.mv (.t 32))])
                  (.seq (.reg [o1 33 (.mv (.t 1)),
                    o1 34 (.mv (.t 10)),
                    o1 35 (.bin .add (.t 33) (.t 34)),
                    o1 11 (.mv (.t 35))])
                   (.seq (.seq (.reg [o1 36 (.mv (.t 9)),
                      o1 37 (.iaddrA 2 1 (.t 7) (.t 36)),
                      o1 38 (.load none (.t 37)),
                      o1 39 (.un .not (.t 38)),
                      o1 40 (.mv (.t 39)),
                      oF 41 (.mv (.t 11)) 40,
                      oF 42 (.bin .lss (.t 41) (cI 0)) 40,
                      o1 43 (.pick (.t 40) (cB true) (.t 42)),
                      o1 44 (.mv (.t 43)),
                      oF 45 (.mv (.t 11)) 44,
                      oF 46 (.mv (.t 0)) 44,
                      oF 47 (.lenL (.t 46)) 44,
                      oF 48 (.bin .geq (.t 45) (.t 47)) 44,
                      o1 49 (.pick (.t 44) (cB true) (.t 48))])
                     (.cond (.t 49) (.exit 3) (.skip)))
                    (.seq (.seq (.regD [o1 50 (.mv (.t 0)),
                       o1 51 (.mv (.t 11)),
                       o1 52 (.iaddr 3 (.t 50) (.t 51)),
                       o1 53 (.load (some 3) (.t 52)),
                       o1 54 (.faddr 1 (.t 5)),
                       o1 55 (.load none (.t 54)),
                       o1 56 (.call (.f 39) [(.t 53), (.t 55)]),
                       o1 57 (.mv (.t 56)),
                       oT 58 (.mv (.t 0)) 57,
                       oT 59 (.mv (.t 11)) 57,
                       oT 60 (.mv (.t 1)) 57,
                       oT 61 (.call (.f 58) [(.t 58), (.t 59), (.t 60)]) 57,
                       oT 62 (.un .not (.t 61)) 57,
                       o1 63 (.pick (.t 57) (.t 62) (cB false))])
                      (.cond (.t 63) (.seq (.reg [o1 64 (.mv (.t 11)),
                         o1 6 (.mv (.t 64))])
                        (.ret)) (.skip)))
                     (.regE [o1 65 (.mv (.t 9)),
                      o1 66 (.faddr 2 (.t 5)),
                      o1 67 (.load none (.t 66)),
                      o1 68 (.lenL (.t 67)),
                      o1 69 (.bin .eql (.t 68) (cI 0)),
                      o1 70 (.mv (.t 69)),
                      oF 71 (.mv (.t 0)) 70,
                      oF 72 (.mv (.t 11)) 70,
                      oF 73 (.iaddr 3 (.t 71) (.t 72)) 70,
                      oF 74 (.load (some 3) (.t 73)) 70,
                      oF 75 (.faddr 2 (.t 5)) 70,
                      oF 76 (.load none (.t 75)) 70,
                      oF 77 (.call (.f 39) [(.t 74), (.t 76)]) 70,
                      oF 78 (.un .not (.t 77)) 70,
                      o1 79 (.pick (.t 70) (cB true) (.t 78)),
                      o1 80 (.iaddrA 2 1 (.t 7) (.t 65)),
                      o0 (.store 1 (.t 80) (.t 79))]))))))
                (.reg [o1 81 (.bin .add (.t 29) (cI 1)),
                 o1 29 (.mv (.t 81))]))))))))
         (.reg [o1 23 (.mv (.t 8)),
          o1 24 (.bin .add (.t 23) (cI 1)),
          o1 8 (.mv (.t 24))]))))))
    (.seq (.reg [o1 6 (.mv (cI (-1)))])
     (.ret))))
theorem s40_ok : lookF Try.prog 40 = some (s40, 82, [.tmp 6]) := by kernel_rfl
set_option maxHeartbeats 2000000 in
theorem parent_ok (l : List Hung) (hl : Hds l) (he : Ends l) (hlen : l.length ≤ 200) (i : Nat) (hi : i < l.length) (h : Hook) (hm : 1 ≤ h.2.2.2.2.1 ∧ h.2.2.2.2.1 ≤ 200) : Fn P 40 [sl l, intA i, hookA h] (intA (parI h l i)) := by
  (refine fn_look s40_ok (by simp) (by intro k; simp only [go_sem, Nat.reduceEqDiff, ↓reduceIte, reduceCtorEq, Nat.reduceAdd, Nat.reduceMul, Int.reduceToNat, List.reduceReplicate, Nat.reduceLeDiff, Nat.reduceLT, Int.reduceLT, Int.reduceLE, Int.reduceEq]) fun S hS => cwp_sound _ _ _ _ ?_; simp (disch := omega) only [s40, go_sem, Nat.reduceEqDiff, ↓reduceIte, reduceCtorEq, Nat.reduceAdd, Nat.reduceMul, Int.reduceToNat, List.reduceReplicate, Nat.reduceLeDiff, Nat.reduceLT, Int.reduceLT, Int.reduceLE, Int.reduceEq])
  repeat' (first | with_reducible refine inw ?_ | simp (disch := omega) only [go_sem, Nat.reduceEqDiff, ↓reduceIte, reduceCtorEq, Nat.reduceAdd, Nat.reduceMul, Int.reduceToNat, List.reduceReplicate, Nat.reduceLeDiff, Nat.reduceLT, Int.reduceLT, Int.reduceLE, Int.reduceEq] | with_reducible refine giv_intro fun _h => ?_ | with_reducible refine alt_intro ?_ fun _h => ?_ | with_reducible refine pickD_nil ?_ | (with_reducible refine brc (fun _h => ?_) fun _h => ?_) <;> first | (exfalso; omega) | simp only [decide_eq_false _h] | simp only [(_h : (_ : Bool) = _)] | simp only [decide_eq_true _h] | skip)
  (refine loopC hS [0, 1, 5, 7] (by simp only [go_sem, Nat.reduceEqDiff, ↓reduceIte, reduceCtorEq, Nat.reduceAdd, Nat.reduceMul, Int.reduceToNat, List.reduceReplicate, Nat.reduceLeDiff, Nat.reduceLT, Int.reduceLT, Int.reduceLE, Int.reduceEq]; try rfl) (fun (⟨n, far, a, b⟩ : Nat × Nat × Bool × Bool) => [(8, intA far)]) (fun (⟨n, far, a, b⟩ : Nat × Nat × Bool × Bool) => [some (.row 57 6 [sl h.1, sl h.2.1, sl h.2.2.1, intA h.2.2.2.1, intA h.2.2.2.2.1, strA h.2.2.2.2.2]), some (.row 82 2 [boolA a, boolA b])]) (fun (⟨n, far, a, b⟩ : Nat × Nat × Bool × Bool) => (n : Int) + far = h.2.2.2.2.1 + 1 ∧ 1 ≤ far ∧ parI h l i = parF h l i n far a b) (fun (⟨n, far, a, b⟩ : Nat × Nat × Bool × Bool) => n) ((h.2.2.2.2.1.toNat, 1, decide (h.2.2.2.1 ≤ 0), decide (0 ≤ h.2.2.2.1))) ?h01 ?hn1 ?rd1; case hn1 => (intro s; first | rfl | (rcases s with ⟨_, _⟩; rfl) | (rcases s with ⟨_, _, _⟩; rfl) | (rcases s with ⟨_, _, _, _⟩; rfl) | (rcases s with ⟨_, _, _, _, _⟩; rfl)))
  · simp (disch := omega) only [go_sem, Nat.reduceEqDiff, ↓reduceIte, reduceCtorEq, Nat.reduceAdd, Nat.reduceMul, Int.reduceToNat, List.reduceReplicate, Nat.reduceLeDiff, Nat.reduceLT, Int.reduceLT, Int.reduceLE, Int.reduceEq]
    exact ⟨by omega, rfl⟩
  rintro ⟨n, far, a, b⟩ ⟨hn, hf, hI⟩
  replace hn : (n : Int) + far = h.2.2.2.2.1 + 1 := hn
  replace hf : 1 ≤ far := hf
  replace hI : parI h l i = parF h l i n far a b := hI
  cases n with
  | zero =>
    rw [parF] at hI
    rw [hI]
    repeat' (first | with_reducible refine inw ?_ | simp (disch := omega) only [go_sem, Nat.reduceEqDiff, ↓reduceIte, reduceCtorEq, Nat.reduceAdd, Nat.reduceMul, Int.reduceToNat, List.reduceReplicate, Nat.reduceLeDiff, Nat.reduceLT, Int.reduceLT, Int.reduceLE, Int.reduceEq] | with_reducible refine giv_intro fun _h => ?_ | with_reducible refine alt_intro ?_ fun _h => ?_ | with_reducible refine pickD_nil ?_ | (with_reducible refine brc (fun _h => ?_) fun _h => ?_) <;> first | (exfalso; omega) | simp only [decide_eq_false _h] | simp only [(_h : (_ : Bool) = _)] | simp only [decide_eq_true _h] | skip)
  | succ n =>
    rw [parF] at hI
    have ei : (((n + 1 : Nat) : Int)) = n + 1 := by omega
    repeat' (first | with_reducible refine inw ?_ | simp (disch := omega) only [go_sem, Nat.reduceEqDiff, ↓reduceIte, reduceCtorEq, Nat.reduceAdd, Nat.reduceMul, Int.reduceToNat, List.reduceReplicate, Nat.reduceLeDiff, Nat.reduceLT, Int.reduceLT, Int.reduceLE, Int.reduceEq] | with_reducible refine giv_intro fun _h => ?_ | with_reducible refine alt_intro ?_ fun _h => ?_ | with_reducible refine pickD_nil ?_ | (with_reducible refine brc (fun _h => ?_) fun _h => ?_) <;> first | (exfalso; omega) | simp only [decide_eq_false _h] | simp only [(_h : (_ : Bool) = _)] | simp only [decide_eq_true _h] | skip)
    (refine loopC hS [0, 1, 5, 7, 8, 28] (by simp only [go_sem, Nat.reduceEqDiff, ↓reduceIte, reduceCtorEq, Nat.reduceAdd, Nat.reduceMul, Int.reduceToNat, List.reduceReplicate, Nat.reduceLeDiff, Nat.reduceLT, Int.reduceLT, Int.reduceLE, Int.reduceEq]; try rfl) (fun (⟨j, a1, b1⟩ : Nat × Bool × Bool) => [(29, intA j)]) (fun (⟨j, a1, b1⟩ : Nat × Bool × Bool) => [some (.row 57 6 [sl h.1, sl h.2.1, sl h.2.2.1, intA h.2.2.2.1, intA h.2.2.2.2.1, strA h.2.2.2.2.2]), some (.row 82 2 [boolA a1, boolA b1])]) (fun (⟨j, a1, b1⟩ : Nat × Bool × Bool) => (j = 0 ∧ a1 = a ∧ b1 = b) ∨ (j = 1 ∧ b1 = b ∧ parI h l i = if hitP h l i b (i + far) = true then (i : Int) + far else parF h l i n (far + 1) a1 (openP h l b (i + far))) ∨ (j = 2 ∧ parI h l i = parF h l i n (far + 1) a1 b1)) (fun (⟨j, a1, b1⟩ : Nat × Bool × Bool) => 2 - j) ((0, a, b)) ?h02 ?hn2 ?rd2; case hn2 => (intro s; first | rfl | (rcases s with ⟨_, _⟩; rfl) | (rcases s with ⟨_, _, _⟩; rfl) | (rcases s with ⟨_, _, _, _⟩; rfl) | (rcases s with ⟨_, _, _, _, _⟩; rfl)))
    · simp (disch := omega) only [go_sem, Nat.reduceEqDiff, ↓reduceIte, reduceCtorEq, Nat.reduceAdd, Nat.reduceMul, Int.reduceToNat, List.reduceReplicate, Nat.reduceLeDiff, Nat.reduceLT, Int.reduceLT, Int.reduceLE, Int.reduceEq]
      simp
    rintro ⟨j, a1, b1⟩ hJ
    replace hJ : (j = 0 ∧ a1 = a ∧ b1 = b) ∨ (j = 1 ∧ b1 = b ∧ parI h l i = if hitP h l i b (i + far) = true then (i : Int) + far else parF h l i n (far + 1) a1 (openP h l b (i + far))) ∨ (j = 2 ∧ parI h l i = parF h l i n (far + 1) a1 b1) := hJ
    rcases hJ with ⟨rfl, rfl, rfl⟩ | ⟨rfl, rfl, hJ⟩ | ⟨rfl, hJ⟩
    · have e1 : (i : Int) + (0 - (far : Int)) = i - far := by omega
      by_cases hs : a1 = true ∧ 0 ≤ (i : Int) - far ∧ (i : Int) - far < l.length
      · obtain ⟨rfl, h1, h2⟩ := hs
        have hsk : skipP l true (i - far) = false := by
          rw [skipP, decide_eq_false (by omega), decide_eq_false (by omega)]; rfl
        have c1 := has_ok (nth l ((i : Int) - far).toNat) h.2.1
        have c2 := hangs_ok l hl he ((i : Int) - far) i (by omega) h2 (by omega)
        have c3 := has_ok (nth l ((i : Int) - far).toNat) h.2.2.1
        have hh : hitP h l i true (i - far) = (hasB (nth l ((i : Int) - far).toNat).1 h.2.1 && !hgB l ((i : Int) - far) i) := by rw [hitP, hsk]; rfl
        have ho : openP h l true (i - far) = (decide (h.2.2.1.length = 0) || !hasB (nth l ((i : Int) - far).toNat).1 h.2.2.1) := by rw [openP, if_neg (by rw [hsk]; simp)]
        have hit : hasB (nth l ((i : Int) - far).toNat).1 h.2.1 = true → hgB l ((i : Int) - far) i = false → (i : Int) - far = parI h l i := fun q1 q2 => by rw [hI, if_pos (by rw [hh, q1, q2]; rfl)]
        have miss1 : hasB (nth l ((i : Int) - far).toNat).1 h.2.1 = false → hitP h l i true ((i : Int) - far) = false := fun e => by rw [hh, e]; rfl
        have miss2 : hgB l ((i : Int) - far) i = true → hitP h l i true ((i : Int) - far) = false := fun e => by rw [hh, e, Bool.not_true, Bool.and_false]
        have ho1 : h.2.2.1.length = 0 → openP h l true ((i : Int) - far) = true := fun e => by rw [ho, decide_eq_true e]; rfl
        have ho2 : ¬h.2.2.1.length = 0 → openP h l true ((i : Int) - far) = !hasB (nth l ((i : Int) - far).toNat).1 h.2.2.1 := fun e => by rw [ho, decide_eq_false e]; rfl
        repeat' (first | with_reducible refine inw ?_ | simp (disch := omega) only [go_sem, Nat.reduceEqDiff, ↓reduceIte, reduceCtorEq, Nat.reduceAdd, Nat.reduceMul, Int.reduceToNat, List.reduceReplicate, Nat.reduceLeDiff, Nat.reduceLT, Int.reduceLT, Int.reduceLE, Int.reduceEq, e1] | (with_reducible apply call_D (c1)); (focus simp (disch := omega) only [go_sem, Nat.reduceEqDiff, ↓reduceIte, reduceCtorEq, Nat.reduceAdd, Nat.reduceMul, Int.reduceToNat, List.reduceReplicate, Nat.reduceLeDiff, Nat.reduceLT, Int.reduceLT, Int.reduceLE, Int.reduceEq, e1] <;> rfl) | (with_reducible apply call_D (c2)); (focus simp (disch := omega) only [go_sem, Nat.reduceEqDiff, ↓reduceIte, reduceCtorEq, Nat.reduceAdd, Nat.reduceMul, Int.reduceToNat, List.reduceReplicate, Nat.reduceLeDiff, Nat.reduceLT, Int.reduceLT, Int.reduceLE, Int.reduceEq, e1] <;> rfl) | (with_reducible apply call_D (c3)); (focus simp (disch := omega) only [go_sem, Nat.reduceEqDiff, ↓reduceIte, reduceCtorEq, Nat.reduceAdd, Nat.reduceMul, Int.reduceToNat, List.reduceReplicate, Nat.reduceLeDiff, Nat.reduceLT, Int.reduceLT, Int.reduceLE, Int.reduceEq, e1] <;> rfl) | with_reducible refine giv_intro fun _h => ?_ | with_reducible refine alt_intro ?_ fun _h => ?_ | with_reducible refine pickD_nil ?_ | (with_reducible refine brc (fun _h => ?_) fun _h => ?_) <;> first | (exfalso; omega) | simp only [decide_eq_false _h] | simp only [(_h : (_ : Bool) = _)] | simp only [decide_eq_true _h] | skip)
        all_goals first
          | exact hit (by assumption) (by assumption)
          | (refine ⟨(1, openP h l true ((i : Int) - far), b1), ⟨by omega, .inr (.inl ⟨rfl, rfl, by rw [hI, if_neg (by rw [show hitP h l i true ((i : Int) - far) = false by first | exact miss1 (by assumption) | exact miss2 (by assumption)]; simp)]⟩)⟩, rfl, ?_⟩
             first | rw [ho1 (by omega)] | rw [ho2 (by omega)])
      · have hsk : skipP l a1 (i - far) = true := by
          rw [skipP, Bool.or_eq_true, Bool.or_eq_true, Bool.not_eq_true', decide_eq_true_eq, decide_eq_true_eq]
          by_cases h1 : a1 = true
          · exact .inr (by have := not_and.1 hs h1; omega)
          · exact .inl (by simpa using h1)
        have hm1 : hitP h l i a1 (i - far) = false := by rw [hitP, hsk]; rfl
        have ho1 : openP h l a1 (i - far) = a1 := by rw [openP, if_pos hsk]
        repeat' (first | with_reducible refine inw ?_ | simp (disch := omega) only [go_sem, Nat.reduceEqDiff, ↓reduceIte, reduceCtorEq, Nat.reduceAdd, Nat.reduceMul, Int.reduceToNat, List.reduceReplicate, Nat.reduceLeDiff, Nat.reduceLT, Int.reduceLT, Int.reduceLE, Int.reduceEq, e1] | with_reducible refine giv_intro fun _h => ?_ | with_reducible refine alt_intro ?_ fun _h => ?_ | with_reducible refine pickD_nil ?_ | (with_reducible refine brc (fun _h => ?_) fun _h => ?_) <;> first | (exfalso; omega) | simp only [decide_eq_false _h] | simp only [(_h : (_ : Bool) = _)] | simp only [decide_eq_true _h] | skip)
        all_goals first
          | exact absurd ⟨by assumption, by omega, by omega⟩ hs
          | (refine ⟨(1, openP h l a1 (i - far), b1), ⟨by omega, .inr (.inl ⟨rfl, rfl, by rw [hI, if_neg (by rw [hm1]; simp)]⟩)⟩, rfl, ?_⟩
             rw [ho1]
             first | done | (rw [show a1 = _ by assumption]))
    · by_cases hs : b1 = true ∧ (i : Int) + far < l.length
      · obtain ⟨rfl, h2⟩ := hs
        have hsk : skipP l true (i + far) = false := by
          rw [skipP, decide_eq_false (by omega), decide_eq_false (by omega)]; rfl
        have c1 := has_ok (nth l ((i : Int) + far).toNat) h.2.1
        have c2 := hangs_ok l hl he ((i : Int) + far) i (by omega) h2 (by omega)
        have c3 := has_ok (nth l ((i : Int) + far).toNat) h.2.2.1
        have hh : hitP h l i true (i + far) = (hasB (nth l ((i : Int) + far).toNat).1 h.2.1 && !hgB l ((i : Int) + far) i) := by rw [hitP, hsk]; rfl
        have ho : openP h l true (i + far) = (decide (h.2.2.1.length = 0) || !hasB (nth l ((i : Int) + far).toNat).1 h.2.2.1) := by rw [openP, if_neg (by rw [hsk]; simp)]
        have hit : hasB (nth l ((i : Int) + far).toNat).1 h.2.1 = true → hgB l ((i : Int) + far) i = false → (i : Int) + far = parI h l i := fun q1 q2 => by rw [hJ, if_pos (by rw [hh, q1, q2]; rfl)]
        have miss1 : hasB (nth l ((i : Int) + far).toNat).1 h.2.1 = false → hitP h l i true ((i : Int) + far) = false := fun e => by rw [hh, e]; rfl
        have miss2 : hgB l ((i : Int) + far) i = true → hitP h l i true ((i : Int) + far) = false := fun e => by rw [hh, e, Bool.not_true, Bool.and_false]
        have ho1 : h.2.2.1.length = 0 → openP h l true ((i : Int) + far) = true := fun e => by rw [ho, decide_eq_true e]; rfl
        have ho2 : ¬h.2.2.1.length = 0 → openP h l true ((i : Int) + far) = !hasB (nth l ((i : Int) + far).toNat).1 h.2.2.1 := fun e => by rw [ho, decide_eq_false e]; rfl
        repeat' (first | with_reducible refine inw ?_ | simp (disch := omega) only [go_sem, Nat.reduceEqDiff, ↓reduceIte, reduceCtorEq, Nat.reduceAdd, Nat.reduceMul, Int.reduceToNat, List.reduceReplicate, Nat.reduceLeDiff, Nat.reduceLT, Int.reduceLT, Int.reduceLE, Int.reduceEq] | (with_reducible apply call_D (c1)); (focus simp (disch := omega) only [go_sem, Nat.reduceEqDiff, ↓reduceIte, reduceCtorEq, Nat.reduceAdd, Nat.reduceMul, Int.reduceToNat, List.reduceReplicate, Nat.reduceLeDiff, Nat.reduceLT, Int.reduceLT, Int.reduceLE, Int.reduceEq] <;> rfl) | (with_reducible apply call_D (c2)); (focus simp (disch := omega) only [go_sem, Nat.reduceEqDiff, ↓reduceIte, reduceCtorEq, Nat.reduceAdd, Nat.reduceMul, Int.reduceToNat, List.reduceReplicate, Nat.reduceLeDiff, Nat.reduceLT, Int.reduceLT, Int.reduceLE, Int.reduceEq] <;> rfl) | (with_reducible apply call_D (c3)); (focus simp (disch := omega) only [go_sem, Nat.reduceEqDiff, ↓reduceIte, reduceCtorEq, Nat.reduceAdd, Nat.reduceMul, Int.reduceToNat, List.reduceReplicate, Nat.reduceLeDiff, Nat.reduceLT, Int.reduceLT, Int.reduceLE, Int.reduceEq] <;> rfl) | with_reducible refine giv_intro fun _h => ?_ | with_reducible refine alt_intro ?_ fun _h => ?_ | with_reducible refine pickD_nil ?_ | (with_reducible refine brc (fun _h => ?_) fun _h => ?_) <;> first | (exfalso; omega) | simp only [decide_eq_false _h] | simp only [(_h : (_ : Bool) = _)] | simp only [decide_eq_true _h] | skip)
        all_goals first
          | exact hit (by assumption) (by assumption)
          | (refine ⟨(2, a1, openP h l true ((i : Int) + far)), ⟨by omega, .inr (.inr ⟨rfl, by rw [hJ, if_neg (by rw [show hitP h l i true ((i : Int) + far) = false by first | exact miss1 (by assumption) | exact miss2 (by assumption)]; simp)]⟩)⟩, rfl, ?_⟩
             first | rw [ho1 (by omega)] | rw [ho2 (by omega)])
      · have hsk : skipP l b1 (i + far) = true := by
          rw [skipP, Bool.or_eq_true, Bool.or_eq_true, Bool.not_eq_true', decide_eq_true_eq, decide_eq_true_eq]
          by_cases h1 : b1 = true
          · exact .inr (by have := not_and.1 hs h1; omega)
          · exact .inl (by simpa using h1)
        have hm1 : hitP h l i b1 (i + far) = false := by rw [hitP, hsk]; rfl
        have ho1 : openP h l b1 (i + far) = b1 := by rw [openP, if_pos hsk]
        repeat' (first | with_reducible refine inw ?_ | simp (disch := omega) only [go_sem, Nat.reduceEqDiff, ↓reduceIte, reduceCtorEq, Nat.reduceAdd, Nat.reduceMul, Int.reduceToNat, List.reduceReplicate, Nat.reduceLeDiff, Nat.reduceLT, Int.reduceLT, Int.reduceLE, Int.reduceEq] | with_reducible refine giv_intro fun _h => ?_ | with_reducible refine alt_intro ?_ fun _h => ?_ | with_reducible refine pickD_nil ?_ | (with_reducible refine brc (fun _h => ?_) fun _h => ?_) <;> first | (exfalso; omega) | simp only [decide_eq_false _h] | simp only [(_h : (_ : Bool) = _)] | simp only [decide_eq_true _h] | skip)
        all_goals first
          | exact absurd ⟨by assumption, by omega⟩ hs
          | (refine ⟨(2, a1, openP h l b1 (i + far)), ⟨by omega, .inr (.inr ⟨rfl, by rw [hJ, if_neg (by rw [hm1]; simp)]⟩)⟩, rfl, ?_⟩
             rw [ho1]
             first | done | (rw [show b1 = _ by assumption]))
    · repeat' (first | with_reducible refine inw ?_ | simp (disch := omega) only [go_sem, Nat.reduceEqDiff, ↓reduceIte, reduceCtorEq, Nat.reduceAdd, Nat.reduceMul, Int.reduceToNat, List.reduceReplicate, Nat.reduceLeDiff, Nat.reduceLT, Int.reduceLT, Int.reduceLE, Int.reduceEq] | with_reducible refine giv_intro fun _h => ?_ | with_reducible refine alt_intro ?_ fun _h => ?_ | with_reducible refine pickD_nil ?_ | (with_reducible refine brc (fun _h => ?_) fun _h => ?_) <;> first | (exfalso; omega) | simp only [decide_eq_false _h] | simp only [(_h : (_ : Bool) = _)] | simp only [decide_eq_true _h] | skip)
      refine ⟨(n, far + 1, a1, b1), ?_⟩
      dsimp only
      exact ⟨⟨by omega, by omega, by omega, hJ⟩, by omega, rfl⟩
end Go.Proofs.Ytkedbkdbnmmkhaa.Ev

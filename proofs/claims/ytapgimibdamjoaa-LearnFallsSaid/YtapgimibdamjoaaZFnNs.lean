/- The best change: the program; Best, both programs. -/
import Derived.Test.YtapgimibdamjoaaZFnNr
set_option linter.unusedVariables false
set_option linter.unusedSimpArgs false
namespace Go.Proofs.Ytapgimibdamjoaa.Ev
open Go Go.Proofs Go.RowKit

/-- ablaut/learn.best: 1 parameters, 0 captured -/
def s46 : SC := .seq (.reg [o1 2 (.alloc 32 4 [(.string ⟨#[]⟩), (.string ⟨#[]⟩), (.int .i64 0), (.string ⟨#[]⟩)]),
   o1 3 (.mv (cI 0))])
  (.seq (.reg [o1 4 (.alloc 32 4 [(.string ⟨#[]⟩), (.string ⟨#[]⟩), (.int .i64 0), (.string ⟨#[]⟩)])])
   (.seq (.reg [o1 5 (.mv (cI 0))])
    (.seq (.seq (.reg [o1 9 (.mv (.t 0)),
       o1 10 (.call (.f 66) [(.t 9)]),
       o1 11 (.rangeM (.t 10))])
      (.block 0 (.loop (.seq (.reg [o1 12 (.nextM (.t 11)),
          o1 13 (.ext (.t 12) 0)])
         (.seq (.cond (.t 13) (.skip) (.exit 0))
          (.block 1 (.seq (.reg [o1 14 (.entryM (.t 11)),
             o1 15 (.ext (.t 14) 0),
             o1 16 (.ext (.t 14) 1),
             o1 6 (.alloc 32 4 [(.string ⟨#[]⟩), (.string ⟨#[]⟩), (.int .i64 0), (.string ⟨#[]⟩)]),
             o0 (.store 4 (.t 6) (.t 15)),
             o1 7 (.mv (.t 16))])
            (.seq (.seq (.reg [o1 17 (.mv (.t 7)),
               o1 18 (.mv (.t 5)),
               o1 19 (.bin .lss (.t 17) (.t 18))])
              (.cond (.t 19) (.exit 1) (.skip)))
             (.seq (.reg [o1 20 (.load (some 4) (.t 6)),
               o1 21 (.mv (.t 0)),
               o1 22 (.call (.f 44) [(.t 20), (.t 21)]),
               o1 8 (.mv (.t 22))])
              (.seq (.reg [o1 23 (.mv (.t 8)),
                o1 24 (.mv (.t 5)),
                o1 25 (.bin .gtr (.t 23) (.t 24)),
                o1 26 (.mv (.t 25)),
                oF 27 (.mv (.t 8)) 26,
                oF 28 (.mv (.t 5)) 26,
                oF 29 (.bin .eql (.t 27) (.t 28)) 26,
                oF 30 (.mv (.t 29)) 26,
                oT 31 (.mv (.t 8)) 30,
                oT 32 (.bin .gtr (.t 31) (cI 0)) 30,
                oF 33 (.pick (.t 30) (.t 32) (cB false)) 26,
                oF 34 (.mv (.t 33)) 26,
                oT 35 (.load (some 4) (.t 6)) 34,
                oT 36 (.load (some 4) (.t 4)) 34,
                oT 37 (.call (.f 67) [(.t 35), (.t 36)]) 34,
                oT 38 (.bin .lss (.t 37) (cI 0)) 34,
                oF 39 (.pick (.t 34) (.t 38) (cB false)) 26,
                o1 40 (.pick (.t 26) (cB true) (.t 39))])
               (.cond (.t 40) (.reg [o1 41 (.load (some 4) (.t 6)),
                 o1 42 (.mv (.t 8)),
                 o0 (.store 4 (.t 4) (.t 41)),
                 o1 5 (.mv (.t 42))]) (.skip))))))))))))
     (.seq (.reg [o1 43 (.load (some 4) (.t 4)),
       o1 44 (.mv (.t 5)),
       o0 (.store 4 (.t 2) (.t 43)),
       o1 3 (.mv (.t 44))])
      (.ret)))))
theorem s46_ok : lookF Try.prog 46 = some (s46, 45, [.cell 2 (some 4), .tmp 3]) := by kernel_rfl
set_option maxHeartbeats 8000000 in
theorem best0_ok (ls : List Lesson) (h : OkLs ls) (hs : SmV ls) : Fn P 46 [sl ls] (bcA (bestL ls)) := by
  have hls := h.1
  have c0 := offered_ok ls h hs
  (refine fn_look s46_ok (by simp) (by intro k; simp only [go_sem, Nat.reduceEqDiff, ↓reduceIte, reduceCtorEq, Nat.reduceAdd, Nat.reduceMul, Int.reduceToNat, List.reduceReplicate, Nat.reduceLeDiff, Nat.reduceLT, Int.reduceLT, Int.reduceLE, Int.reduceEq]) fun S hS => cwp_sound _ _ _ _ ?_; simp (maxSteps := 900000) (disch := omega) only [s46, go_sem, Nat.reduceEqDiff, ↓reduceIte, reduceCtorEq, Nat.reduceAdd, Nat.reduceMul, Int.reduceToNat, List.reduceReplicate, Nat.reduceLeDiff, Nat.reduceLT, Int.reduceLT, Int.reduceLE, Int.reduceEq])
  repeat' (first | with_reducible refine inw ?_ | simp (maxSteps := 900000) (disch := omega) only [go_sem, Nat.reduceEqDiff, ↓reduceIte, reduceCtorEq, Nat.reduceAdd, Nat.reduceMul, Int.reduceToNat, List.reduceReplicate, Nat.reduceLeDiff, Nat.reduceLT, Int.reduceLT, Int.reduceLE, Int.reduceEq] | (with_reducible apply callR (c0)); (focus simp (maxSteps := 900000) (disch := omega) only [go_sem, Nat.reduceEqDiff, ↓reduceIte, reduceCtorEq, Nat.reduceAdd, Nat.reduceMul, Int.reduceToNat, List.reduceReplicate, Nat.reduceLeDiff, Nat.reduceLT, Int.reduceLT, Int.reduceLE, Int.reduceEq] <;> rfl) | with_reducible refine giv_intro fun _h => ?_ | with_reducible refine alt_intro ?_ fun _h => ?_ | with_reducible refine pickD_nil ?_ | (with_reducible refine brc (fun _h => ?_) fun _h => ?_) <;> first | (exfalso; omega) | simp only [decide_eq_false _h] | simp only [(_h : (_ : Bool) = _)] | simp only [decide_eq_true _h] | skip)
  rintro _ ⟨m, rfl, hu0, hm⟩
  have hN : ∀ c, offN ls ls.length 0 c = if Cand c then hits c ls else 0 := fun c => by rw [offN]; simp [cntN]
  have hval : ∀ c v, getM m c = some v → Cand c ∧ v = (hits c ls : Int) := fun c v hv => by
    rw [hm, hN, optC] at hv
    by_cases hc : Cand c
    · rw [if_pos hc] at hv
      split at hv
      · cases hv
      · exact ⟨hc, by simpa using hv.symm⟩
    · rw [if_neg hc, if_pos rfl] at hv; cases hv
  have hb0 : BestIn (fun c => gainL c ls) (bestS ls m m) (dfC, 0) := best_nil _ fun c hc => by
    obtain ⟨_, h1, h2⟩ := hc; rw [h2] at h1; cases h1
  have fin : ∀ r, BestIn (fun c => gainL c ls) (bestS ls m []) r → r = bestL ls := fun r hb => best_eq (best_mono hb (fun x hx => hx.1) fun x hx => by
    cases hg : getM m x with
    | some v => left; exact ⟨hx, by rw [hg]; rfl, rfl⟩
    | none =>
      right
      rw [hm, hN, if_pos hx, optC] at hg
      split at hg
      · have := gain_le_hits (c := x) h
        have e : hits x ls = 0 := by assumption
        omega
      · cases hg)
  have hhb : ∀ c, hits c ls ≤ ls.length * 200 := fun c => cntF_le h (Nat.le_refl _)
  repeat' (first | with_reducible refine inw ?_ | simp (maxSteps := 900000) (disch := omega) only [go_sem, Nat.reduceEqDiff, ↓reduceIte, reduceCtorEq, Nat.reduceAdd, Nat.reduceMul, Int.reduceToNat, List.reduceReplicate, Nat.reduceLeDiff, Nat.reduceLT, Int.reduceLT, Int.reduceLE, Int.reduceEq] | with_reducible refine giv_intro fun _h => ?_ | with_reducible refine alt_intro ?_ fun _h => ?_ | with_reducible refine pickD_nil ?_ | (with_reducible refine brc (fun _h => ?_) fun _h => ?_) <;> first | (exfalso; omega) | simp only [decide_eq_false _h] | simp only [(_h : (_ : Bool) = _)] | simp only [decide_eq_true _h] | skip)
  (refine loopC hS [0, 2, 4, 11] (by simp only [go_sem, Nat.reduceEqDiff, ↓reduceIte, reduceCtorEq, Nat.reduceAdd, Nat.reduceMul, Int.reduceToNat, List.reduceReplicate, Nat.reduceLeDiff, Nat.reduceLT, Int.reduceLT, Int.reduceLE, Int.reduceEq]; try rfl) (fun (⟨cur, left, r⟩ : Option (Change × Int) × List (Change × Int) × Change × Int) => [(5, intA r.2)]) (fun (⟨cur, left, r⟩ : Option (Change × Int) × List (Change × Int) × Change × Int) => [some (Ob.row 32 4 [strA ⟨#[]⟩, strA ⟨#[]⟩, intA 0, strA ⟨#[]⟩]), some (Ob.row 32 4 [strA r.1.1, strA r.1.2.1, intA r.1.2.2.1, strA r.1.2.2.2]), itO cur left]) (fun (⟨cur, left, r⟩ : Option (Change × Int) × List (Change × Int) × Change × Int) => keysU left ∧ (∀ c v, getM left c = some v → getM m c = some v) ∧ BestIn (fun c => gainL c ls) (bestS ls m left) r) (fun (⟨cur, left, r⟩ : Option (Change × Int) × List (Change × Int) × Change × Int) => left.length) ((none, m, dfC, 0)) ?h01 ?hn1 ?rd1; case hn1 => (intro s; first | rfl | (rcases s with ⟨_, _⟩; rfl) | (rcases s with ⟨_, _, _⟩; rfl) | (rcases s with ⟨_, _, _, _⟩; rfl) | (rcases s with ⟨_, _, _, _, _⟩; rfl)))
  · simp (maxSteps := 900000) (disch := omega) only [go_sem, Nat.reduceEqDiff, ↓reduceIte, reduceCtorEq, Nat.reduceAdd, Nat.reduceMul, Int.reduceToNat, List.reduceReplicate, Nat.reduceLeDiff, Nat.reduceLT, Int.reduceLT, Int.reduceLE, Int.reduceEq]
    exact ⟨⟨hu0, fun c v hv => hv, hb0⟩, rfl, rfl⟩
  rintro ⟨cur, left, r⟩ ⟨hu, hsub, hb⟩
  repeat' (first | with_reducible refine inw ?_ | simp (maxSteps := 900000) (disch := omega) only [go_sem, Nat.reduceEqDiff, ↓reduceIte, reduceCtorEq, Nat.reduceAdd, Nat.reduceMul, Int.reduceToNat, List.reduceReplicate, Nat.reduceLeDiff, Nat.reduceLT, Int.reduceLT, Int.reduceLE, Int.reduceEq] | with_reducible refine giv_intro fun _h => ?_ | with_reducible refine alt_intro ?_ fun _h => ?_ | with_reducible refine pickD_nil ?_ | (with_reducible refine brc (fun _h => ?_) fun _h => ?_) <;> first | (exfalso; omega) | simp only [decide_eq_false _h] | simp only [(_h : (_ : Bool) = _)] | simp only [decide_eq_true _h] | skip)
  refine next_intro (fun hl0 => ?_) fun i hi => ?_
  · subst hl0
    have e := fin r hb
    repeat' (first | with_reducible refine inw ?_ | simp (maxSteps := 900000) (disch := omega) only [go_sem, Nat.reduceEqDiff, ↓reduceIte, reduceCtorEq, Nat.reduceAdd, Nat.reduceMul, Int.reduceToNat, List.reduceReplicate, Nat.reduceLeDiff, Nat.reduceLT, Int.reduceLT, Int.reduceLE, Int.reduceEq] | with_reducible refine giv_intro fun _h => ?_ | with_reducible refine alt_intro ?_ fun _h => ?_ | with_reducible refine pickD_nil ?_ | (with_reducible refine brc (fun _h => ?_) fun _h => ?_) <;> first | (exfalso; omega) | simp only [decide_eq_false _h] | simp only [(_h : (_ : Bool) = _)] | simp only [decide_eq_true _h] | skip)
    rw [← e]
  · have k1 := getM_get hu hi
    have k2 := hsub _ _ k1
    obtain ⟨v1, v2⟩ := hval _ _ k2
    have v3 := hhb left[i].1
    have g1 := gain_le_hits (c := left[i].1) h
    have c1 := gain_ok left[i].1 ls v1.kd h
    have c2 := order_ok left[i].1 r.1
    have ho := ord_ahead left[i].1 r.1
    have hlt : (left.eraseIdx i).length < left.length := by rw [List.length_eraseIdx_of_lt hi]; omega
    have hsub2 : ∀ c v, getM (left.eraseIdx i) c = some v → getM m c = some v := fun c v hv => by
      rw [getM_erase hu hi] at hv
      split at hv
      · cases hv
      · exact hsub _ _ hv
    have take : (gainL left[i].1 ls > r.2 ∨ (gainL left[i].1 ls = r.2 ∧ 0 < gainL left[i].1 ls ∧ aheadB left[i].1 r.1 = true)) → (left.eraseIdx i).length < left.length ∧ keysU (left.eraseIdx i) ∧ (∀ c v, getM (left.eraseIdx i) c = some v → getM m c = some v) ∧ BestIn (fun c => gainL c ls) (bestS ls m (left.eraseIdx i)) (left[i].1, gainL left[i].1 ls) := fun hq =>
      ⟨hlt, keysU_erase hu i, hsub2, best_step (g := fun c => gainL c ls) hb (bestS_step hu hsub hi v1) hq⟩
    have skip : gainL left[i].1 ls ≤ r.2 → (gainL left[i].1 ls = r.2 → 0 < gainL left[i].1 ls → ¬ordC left[i].1 r.1 < 0) → (left.eraseIdx i).length < left.length ∧ keysU (left.eraseIdx i) ∧ (∀ c v, getM (left.eraseIdx i) c = some v → getM m c = some v) ∧ BestIn (fun c => gainL c ls) (bestS ls m (left.eraseIdx i)) r := fun q1 q2 =>
      ⟨hlt, keysU_erase hu i, hsub2, best_skip (g := fun c => gainL c ls) hb (bestS_step hu hsub hi v1) q1 fun e1 e2 => by
        cases q : aheadB left[i].1 r.1 with
        | false => rfl
        | true => exact absurd (ho.2 q) (q2 e1 e2)⟩
    repeat' (first | with_reducible refine inw ?_ | simp (maxSteps := 900000) (disch := omega) only [go_sem, Nat.reduceEqDiff, ↓reduceIte, reduceCtorEq, Nat.reduceAdd, Nat.reduceMul, Int.reduceToNat, List.reduceReplicate, Nat.reduceLeDiff, Nat.reduceLT, Int.reduceLT, Int.reduceLE, Int.reduceEq] | (with_reducible apply call (c1)); (focus simp (maxSteps := 900000) (disch := omega) only [go_sem, Nat.reduceEqDiff, ↓reduceIte, reduceCtorEq, Nat.reduceAdd, Nat.reduceMul, Int.reduceToNat, List.reduceReplicate, Nat.reduceLeDiff, Nat.reduceLT, Int.reduceLT, Int.reduceLE, Int.reduceEq] <;> rfl) | (with_reducible apply call (c2)); (focus simp (maxSteps := 900000) (disch := omega) only [go_sem, Nat.reduceEqDiff, ↓reduceIte, reduceCtorEq, Nat.reduceAdd, Nat.reduceMul, Int.reduceToNat, List.reduceReplicate, Nat.reduceLeDiff, Nat.reduceLT, Int.reduceLT, Int.reduceLE, Int.reduceEq] <;> rfl) | with_reducible refine giv_intro fun _h => ?_ | with_reducible refine alt_intro ?_ fun _h => ?_ | with_reducible refine pickD_nil ?_ | (with_reducible refine brc (fun _h => ?_) fun _h => ?_) <;> first | (exfalso; omega) | simp only [decide_eq_false _h] | simp only [(_h : (_ : Bool) = _)] | simp only [decide_eq_true _h] | skip)
    all_goals first
      | exact ⟨(some left[i], left.eraseIdx i, left[i].1, _), take (by first | exact .inl (by omega) | exact .inr ⟨by omega, by omega, ho.1 (by assumption)⟩), rfl, rfl, rfl, rfl⟩
      | exact ⟨(some left[i], left.eraseIdx i, r), skip (by omega) (fun e1 e2 => by first | assumption | (exfalso; omega)), rfl, rfl, rfl, rfl⟩
end Go.Proofs.Ytapgimibdamjoaa.Ev

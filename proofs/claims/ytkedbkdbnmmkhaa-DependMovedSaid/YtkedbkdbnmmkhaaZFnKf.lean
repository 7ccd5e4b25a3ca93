/- Nodes hung by hooks. -/
import Derived.Test.YtkedbkdbnmmkhaaZFnKe
set_option linter.unusedVariables false
set_option linter.unusedSimpArgs false
namespace Go.Proofs.Ytkedbkdbnmmkhaa.Ev
open Go Go.Proofs

def hungBy (h : Hook) (l : List Hung) (i : Nat) : List Hung := if (nth l i).2.1 = -2 ∧ hasB (nth l i).1 h.1 = true ∧ 0 ≤ parI h l i then setHd l i (parI h l i) h.2.2.2.2.2 else l
def hookG (h : Hook) : Nat → Nat → List Hung → List Hung
  | 0, _, l => l
  | n + 1, i, l => hookG h n (i + 1) (hungBy h l i)
def hooksF (n : Nat) : List Hook → List Hung → List Hung
  | [], l => l
  | h :: hs, l => hooksF n hs (hookG h n 0 l)
theorem hungBy_len (h : Hook) {l : List Hung} {i : Nat} (hi : i < l.length) : (hungBy h l i).length = l.length := by
  unfold hungBy; split
  · exact setHd_len hi _ _
  · rfl
theorem hungBy_ok (h : Hook) {l : List Hung} {i : Nat} (hi : i < l.length) (hl : Hds l) (he : Ends l) : Hds (hungBy h l i) ∧ Ends (hungBy h l i) := by
  unfold hungBy; split
  · rename_i hc
    rcases parI_in h l i with h1 | ⟨h1, h2, h3⟩
    · omega
    · refine ⟨setHd_hds hl hi (by omega) h2 _, setHd_ends hl he hi h2 (fun hg => ?_) _⟩
      rw [(hgB_iff hl he h2).2 hg] at h3; cases h3
  · exact ⟨hl, he⟩
/-- The first node whose head is v; -1 if there is none. -/
def idxH (l : List Hung) (v : Int) : Int := match l.findIdx? (fun h => decide (h.2.1 = v)) with | some i => (i : Int) | none => -1
def rootT (l : List Hung) : List Hung × Int := if idxH l (-1) < 0 then (if 0 ≤ idxH l (-2) then setHd l (idxH l (-2)).toNat (-1) ⟨#[114, 111, 111, 116]⟩ else l, idxH l (-2)) else (l, idxH l (-1))
def depOf (r : Int) (l : List Hung) (i : Nat) : List Hung := if (nth l i).2.1 = -2 then setHd l i r ⟨#[100, 101, 112]⟩ else l
def depG (r : Int) : Nat → Nat → List Hung → List Hung
  | 0, _, l => l
  | n + 1, i, l => depG r n (i + 1) (depOf r l i)
def hangL (hs : List Hook) (l : List Hung) : List Hung := depG (rootT (hooksF l.length hs l)).2 l.length 0 (rootT (hooksF l.length hs l)).1
def hangT (hs : List Hook) (l : List Hung) : List Hung × Int := if formK hs ≠ 0 then ([], formK hs) else if valE l ≠ 0 then ([], valE l) else (hangL hs l, 0)
theorem idxH_range (l : List Hung) (v : Int) : -1 ≤ idxH l v ∧ idxH l v < l.length := by
  unfold idxH
  split
  · rename_i i h
    obtain ⟨h1, _⟩ := List.findIdx?_eq_some_iff_getElem.1 h
    omega
  · omega
/-- ablaut/depend.Hang$1$1: 1 parameters, 1 captured -/
def s43 : SC := .seq (.reg [o1 2 (.box 34 3 (.t 0)),
   o1 3 (.mv (cB false))])
  (.seq (.reg [o1 4 (.faddr 1 (.t 2)),
    o1 5 (.load none (.t 4)),
    o1 6 (.load none (.t 1)),
    o1 7 (.bin .eql (.t 5) (.t 6)),
    o1 3 (.mv (.t 7))])
   (.ret))
theorem s43_ok : lookF Try.prog 43 = some (s43, 8, [.tmp 3]) := by kernel_rfl
/-- ablaut/depend.Hang$1: 1 parameters, 1 captured -/
def s41 : SC := .seq (.reg [o1 2 (.box 3 1 (.t 0)),
   o1 3 (.mv (cI 0))])
  (.seq (.reg [o1 4 (.load none (.t 1)),
    o1 5 (.mkfunc 43 [(.t 2)]),
    o1 6 (.call (.f 42) [(.t 4), (.t 5)]),
    o1 3 (.mv (.t 6))])
   (.ret))
theorem s41_ok : lookF Try.prog 41 = some (s41, 7, [.tmp 3]) := by kernel_rfl
theorem with_ok (l : List Hung) (v : Int) : Fn P 41 [intA v, .rop [sl l]] (intA (idxH l v)) := by
  have d1 : ∀ x : Hung, Fn P 43 [valA x, .rop [intA v]] (boolA (decide (x.2.1 = v))) := fun x => by
    rw [valA_hung]
    (refine fn_look s43_ok (by simp) (by intro k; simp only [go_sem, Nat.reduceEqDiff, ↓reduceIte, reduceCtorEq, Nat.reduceAdd, Nat.reduceMul, Int.reduceToNat, List.reduceReplicate, Nat.reduceLeDiff, Nat.reduceLT, Int.reduceLT, Int.reduceLE, Int.reduceEq]) fun S hS => cwp_sound _ _ _ _ ?_; simp (disch := omega) only [s43, go_sem, Nat.reduceEqDiff, ↓reduceIte, reduceCtorEq, Nat.reduceAdd, Nat.reduceMul, Int.reduceToNat, List.reduceReplicate, Nat.reduceLeDiff, Nat.reduceLT, Int.reduceLT, Int.reduceLE, Int.reduceEq])
    repeat' (first | with_reducible refine inw ?_ | simp (disch := omega) only [go_sem, Nat.reduceEqDiff, ↓reduceIte, reduceCtorEq, Nat.reduceAdd, Nat.reduceMul, Int.reduceToNat, List.reduceReplicate, Nat.reduceLeDiff, Nat.reduceLT, Int.reduceLT, Int.reduceLE, Int.reduceEq] | with_reducible refine giv_intro fun _h => ?_ | with_reducible refine alt_intro ?_ fun _h => ?_ | with_reducible refine pickD_nil ?_ | (with_reducible refine brc (fun _h => ?_) fun _h => ?_) <;> first | (exfalso; omega) | simp only [decide_eq_false _h] | simp only [(_h : (_ : Bool) = _)] | simp only [decide_eq_true _h] | skip)
  have d2 := hngIdx_ok l (fun h => decide (h.2.1 = v)) 43 [.rop [intA v]] (by
    intro c hc
    rw [List.mem_singleton] at hc
    subst hc
    exact rop_still (Enc.still v)) (fun x _ => d1 x)
  (refine fn_look s41_ok (by simp) (by intro k; simp only [go_sem, Nat.reduceEqDiff, ↓reduceIte, reduceCtorEq, Nat.reduceAdd, Nat.reduceMul, Int.reduceToNat, List.reduceReplicate, Nat.reduceLeDiff, Nat.reduceLT, Int.reduceLT, Int.reduceLE, Int.reduceEq]) fun S hS => cwp_sound _ _ _ _ ?_; simp (disch := omega) only [s41, go_sem, Nat.reduceEqDiff, ↓reduceIte, reduceCtorEq, Nat.reduceAdd, Nat.reduceMul, Int.reduceToNat, List.reduceReplicate, Nat.reduceLeDiff, Nat.reduceLT, Int.reduceLT, Int.reduceLE, Int.reduceEq])
  repeat' (first | with_reducible refine inw ?_ | simp (disch := omega) only [go_sem, Nat.reduceEqDiff, ↓reduceIte, reduceCtorEq, Nat.reduceAdd, Nat.reduceMul, Int.reduceToNat, List.reduceReplicate, Nat.reduceLeDiff, Nat.reduceLT, Int.reduceLT, Int.reduceLE, Int.reduceEq] | (with_reducible apply call_lend (d2)); (focus simp (disch := omega) only [go_sem, Nat.reduceEqDiff, ↓reduceIte, reduceCtorEq, Nat.reduceAdd, Nat.reduceMul, Int.reduceToNat, List.reduceReplicate, Nat.reduceLeDiff, Nat.reduceLT, Int.reduceLT, Int.reduceLE, Int.reduceEq] <;> rfl); (focus rfl) | with_reducible refine giv_intro fun _h => ?_ | with_reducible refine alt_intro ?_ fun _h => ?_ | with_reducible refine pickD_nil ?_ | (with_reducible refine brc (fun _h => ?_) fun _h => ?_) <;> first | (exfalso; omega) | simp only [decide_eq_false _h] | simp only [(_h : (_ : Bool) = _)] | simp only [decide_eq_true _h] | skip)
  rfl
theorem put_hh2 {l : List Hung} {i : Nat} (h : i < l.length) (x : Hung) (s : Str) : (cellsL (putAt l i x)).take (i * 3 + 2) ++ [strA s] ++ (cellsL (putAt l i x)).drop (i * 3 + 2 + 1) = cellsL (putAt l i (x.1, x.2.1, s)) := by
  have h2 : i < (putAt l i x).length := by rw [putAt_len h]; exact h
  rw [put_h2 h2, nth_put h, if_pos rfl, putAt_set h2, putAt_set h, putAt_set h, List.set_set]
theorem goodK_most {hs : List Hook} (h : formK hs = 0) {x : Hook} (hx : x ∈ hs) : 1 ≤ x.2.2.2.2.1 ∧ x.2.2.2.2.1 ≤ 200 := by
  unfold formK at h
  split at h
  · cases h
  · split at h
    · rename_i h2
      have := List.all_eq_true.1 h2 x hx
      simp only [goodK, Bool.and_eq_true, decide_eq_true_eq] at this
      omega
    · cases h
/-- ablaut/depend.Hang: 2 parameters, 0 captured -/
def s15 : SC := .seq (.reg [o1 4 (.mv (.c (.slice none 0 0))),
   o1 5 (.mv (cI 0))])
  (.seq (.seq (.reg [o1 16 (.mv (.t 0)),
     o1 17 (.call (.f 36) [(.t 16)]),
     o1 6 (.mv (.t 17))])
    (.seq (.reg [o1 18 (.mv (.t 6)),
      o1 19 (.bin .neq (.t 18) (cI 0))])
     (.cond (.t 19) (.seq (.reg [o1 20 (.mv (.t 6)),
        o1 4 (.mv (.c (.slice none 0 0))),
        o1 5 (.mv (.t 20))])
       (.ret)) (.skip))))
   (.seq (.seq (.reg [o1 21 (.mv (.t 1)),
      o1 22 (.call (.f 37) [(.t 21)]),
      o1 7 (.mv (.t 22))])
     (.seq (.reg [o1 23 (.mv (.t 7)),
       o1 24 (.bin .neq (.t 23) (cI 0))])
      (.cond (.t 24) (.seq (.reg [o1 25 (.mv (.t 7)),
         o1 4 (.mv (.c (.slice none 0 0))),
         o1 5 (.mv (.t 25))])
        (.ret)) (.skip))))
    (.seq (.reg [o1 26 (.mv (.t 1)),
      o1 27 (.call (.f 38) [(.t 26)]),
      o1 8 (.alloc 23 1 [(.slice none 0 0)]),
      o0 (.store 1 (.t 8) (.t 27))])
     (.seq (.seq (.reg [o1 28 (.mv (.t 0)),
        o1 29 (.lenL (.t 28)),
        o1 30 (.mv (cI 0))])
       (.block 0 (.loop (.seq (.reg [o1 31 (.bin .lss (.t 30) (.t 29))])
          (.seq (.cond (.t 31) (.skip) (.exit 0))
           (.seq (.block 1 (.seq (.reg [o1 32 (.iaddr 6 (.t 28) (.t 30)),
               o1 33 (.load (some 6) (.t 32)),
               o1 10 (.alloc 57 6 [(.slice none 0 0), (.slice none 0 0), (.slice none 0 0), (.int .i64 0), (.int .i64 0), (.string ⟨#[]⟩)]),
               o0 (.store 6 (.t 10) (.t 33))])
              (.seq (.reg [o1 34 (.load none (.t 8)),
                o1 35 (.lenL (.t 34)),
                o1 36 (.mv (cI 0))])
               (.block 2 (.loop (.seq (.reg [o1 37 (.bin .lss (.t 36) (.t 35))])
                  (.seq (.cond (.t 37) (.skip) (.exit 2))
                   (.seq (.block 3 (.seq (.reg [o1 38 (.mv (.t 36)),
                       o1 11 (.mv (.t 38))])
                      (.seq (.seq (.regD [o1 39 (.load none (.t 8)),
                         o1 40 (.mv (.t 11)),
                         o1 41 (.iaddr 3 (.t 39) (.t 40)),
                         o1 42 (.faddr 1 (.t 41)),
                         o1 43 (.load none (.t 42)),
                         o1 44 (.bin .neq (.t 43) (cI (-2))),
                         o1 45 (.mv (.t 44)),
                         oF 46 (.load none (.t 8)) 45,
                         oF 47 (.mv (.t 11)) 45,
                         oF 48 (.iaddr 3 (.t 46) (.t 47)) 45,
                         oF 49 (.load (some 3) (.t 48)) 45,
                         oF 50 (.faddr 0 (.t 10)) 45,
                         oF 51 (.load none (.t 50)) 45,
                         oF 52 (.call (.f 39) [(.t 49), (.t 51)]) 45,
                         oF 53 (.un .not (.t 52)) 45,
                         o1 54 (.pick (.t 45) (cB true) (.t 53))])
                        (.cond (.t 54) (.exit 3) (.skip)))
                       (.seq (.reg [o1 55 (.load none (.t 8)),
                         o1 56 (.mv (.t 11)),
                         o1 57 (.load (some 6) (.t 10)),
                         o1 58 (.call (.f 40) [(.t 55), (.t 56), (.t 57)]),
                         o1 12 (.mv (.t 58))])
                        (.seq (.reg [o1 59 (.mv (.t 12)),
                          o1 60 (.bin .geq (.t 59) (cI 0))])
                         (.cond (.t 60) (.regF [o1 61 (.load none (.t 8)),
                           o1 62 (.mv (.t 11)),
                           o1 63 (.load none (.t 8)),
                           o1 64 (.mv (.t 11)),
                           o1 65 (.mv (.t 12)),
                           o1 66 (.faddr 5 (.t 10)),
                           o1 67 (.load none (.t 66)),
                           o1 68 (.iaddr 3 (.t 61) (.t 62)),
                           o1 69 (.faddr 1 (.t 68)),
                           o0 (.store 1 (.t 69) (.t 65)),
                           o1 70 (.iaddr 3 (.t 63) (.t 64)),
                           o1 71 (.faddr 2 (.t 70)),
                           o0 (.store 1 (.t 71) (.t 67))]) (.skip)))))))
                    (.reg [o1 72 (.bin .add (.t 36) (cI 1)),
                     o1 36 (.mv (.t 72))])))))))))
            (.reg [o1 73 (.bin .add (.t 30) (cI 1)),
             o1 30 (.mv (.t 73))])))))))
      (.seq (.reg [o1 74 (.mkfunc 41 [(.t 8)]),
        o1 13 (.mv (.t 74))])
       (.seq (.reg [o1 75 (.mv (.t 13)),
         o1 76 (.call (.t 75) [(cI (-1))]),
         o1 14 (.mv (.t 76))])
        (.seq (.seq (.reg [o1 77 (.mv (.t 14)),
           o1 78 (.bin .lss (.t 77) (cI 0))])
          (.cond (.t 78) (.seq (.reg [o1 79 (.mv (.t 13)),
             o1 80 (.call (.t 79) [(cI (-2))]),
             o1 14 (.mv (.t 80))])
            (.seq (.reg [o1 81 (.mv (.t 14)),
              o1 82 (.bin .geq (.t 81) (cI 0))])
             (.cond (.t 82) (.regF [o1 83 (.load none (.t 8)),
               o1 84 (.mv (.t 14)),
               o1 85 (.load none (.t 8)),
               o1 86 (.mv (.t 14)),
               o1 87 (.iaddr 3 (.t 83) (.t 84)),
               o1 88 (.faddr 1 (.t 87)),
               o0 (.store 1 (.t 88) (cI (-1))),
               o1 89 (.iaddr 3 (.t 85) (.t 86)),
               o1 90 (.faddr 2 (.t 89)),
               o0 (.store 1 (.t 90) (.c (.string ⟨#[114, 111, 111, 116]⟩)))]) (.skip)))) (.skip)))
         (.seq (.seq (.reg [o1 91 (.load none (.t 8)),
            o1 92 (.lenL (.t 91)),
            o1 93 (.mv (cI 0))])
           (.block 4 (.loop (.seq (.reg [o1 94 (.bin .lss (.t 93) (.t 92))])
              (.seq (.cond (.t 94) (.skip) (.exit 4))
               (.seq (.block 5 (.seq (.reg [o1 95 (.mv (.t 93)),
                   o1 15 (.mv (.t 95))])
                  (.seq (.reg [o1 96 (.load none (.t 8)),
                    o1 97 (.mv (.t 15)),
                    o1 98 (.iaddr 3 (.t 96) (.t 97)),
                    o1 99 (.faddr 1 (.t 98)),
                    o1 100 (.load none (.t 99)),
                    o1 101 (.bin .eql (.t 100) (cI (-2)))])
                   (.cond (.t 101) (.regF [o1 102 (.load none (.t 8)),
                     o1 103 (.mv (.t 15)),
                     o1 104 (.load none (.t 8)),
                     o1 105 (.mv (.t 15)),
                     o1 106 (.mv (.t 14)),
                     o1 107 (.iaddr 3 (.t 102) (.t 103)),
                     o1 108 (.faddr 1 (.t 107)),
                     o0 (.store 1 (.t 108) (.t 106)),
                     o1 109 (.iaddr 3 (.t 104) (.t 105)),
                     o1 110 (.faddr 2 (.t 109)),
                     o0 (.store 1 (.t 110) (.c (.string ⟨#[100, 101, 112]⟩)))]) (.skip)))))
                (.reg [o1 111 (.bin .add (.t 93) (cI 1)),
                 o1 93 (.mv (.t 111))])))))))
          (.seq (.reg [o1 112 (.load none (.t 8)),
            o1 4 (.mv (.t 112)),
            o1 5 (.mv (cI 0))])
           (.ret))))))))))
theorem s15_ok : lookF Try.prog 15 = some (s15, 113, [.tmp 4, .tmp 5]) := by kernel_rfl
set_option maxHeartbeats 4000000 in
theorem hang_ok (hs : List Hook) (l : List Hung) (hsm : SmK hs) (lsm : SmH l) : Fn P 15 [sl hs, sl l] (.tup [sl (hangT hs l).1, intA (hangT hs l).2]) := by
  have c1 := vHooks_ok hs hsm
  have c2 := validate_ok l lsm
  by_cases hk : formK hs = 0
  · by_cases hv : valE l = 0
    · rw [hk] at c1
      rw [hv] at c2
      rw [hangT, if_neg (by omega), if_neg (by omega)]
      obtain ⟨v1, v2, v3⟩ := valE_ok hv
      by_cases h0 : l.length = 0
      · obtain rfl := List.eq_nil_of_length_eq_zero h0
        have hz : ∀ hs : List Hook, hooksF 0 hs [] = [] := fun hs => by
          induction hs with
          | nil => rfl
          | cons h hs ih => exact ih
        have hr : hangL hs [] = [] := by rw [hangL, List.length_nil, hz]; rfl
        rw [hr]
        have w1 := with_ok [] (-1)
        have w2 := with_ok [] (-2)
        rw [show idxH [] (-1) = -1 from rfl] at w1
        rw [show idxH [] (-2) = -1 from rfl] at w2
        (refine fn_look s15_ok (by simp) (by intro k; simp only [go_sem, Nat.reduceEqDiff, ↓reduceIte, reduceCtorEq, Nat.reduceAdd, Nat.reduceMul, Int.reduceToNat, List.reduceReplicate, Nat.reduceLeDiff, Nat.reduceLT, Int.reduceLT, Int.reduceLE, Int.reduceEq]) fun S hS => cwp_sound _ _ _ _ ?_; simp (disch := omega) only [s15, go_sem, Nat.reduceEqDiff, ↓reduceIte, reduceCtorEq, Nat.reduceAdd, Nat.reduceMul, Int.reduceToNat, List.reduceReplicate, Nat.reduceLeDiff, Nat.reduceLT, Int.reduceLT, Int.reduceLE, Int.reduceEq])
        repeat' (first | with_reducible refine inw ?_ | simp (disch := omega) only [go_sem, Nat.reduceEqDiff, ↓reduceIte, reduceCtorEq, Nat.reduceAdd, Nat.reduceMul, Int.reduceToNat, List.reduceReplicate, Nat.reduceLeDiff, Nat.reduceLT, Int.reduceLT, Int.reduceLE, Int.reduceEq] | (with_reducible apply call (c1)); (focus simp (disch := omega) only [go_sem, Nat.reduceEqDiff, ↓reduceIte, reduceCtorEq, Nat.reduceAdd, Nat.reduceMul, Int.reduceToNat, List.reduceReplicate, Nat.reduceLeDiff, Nat.reduceLT, Int.reduceLT, Int.reduceLE, Int.reduceEq] <;> rfl) | (with_reducible apply call (c2)); (focus simp (disch := omega) only [go_sem, Nat.reduceEqDiff, ↓reduceIte, reduceCtorEq, Nat.reduceAdd, Nat.reduceMul, Int.reduceToNat, List.reduceReplicate, Nat.reduceLeDiff, Nat.reduceLT, Int.reduceLT, Int.reduceLE, Int.reduceEq] <;> rfl) | (with_reducible apply call (fresh_nil)); (focus simp (disch := omega) only [go_sem, Nat.reduceEqDiff, ↓reduceIte, reduceCtorEq, Nat.reduceAdd, Nat.reduceMul, Int.reduceToNat, List.reduceReplicate, Nat.reduceLeDiff, Nat.reduceLT, Int.reduceLT, Int.reduceLE, Int.reduceEq] <;> rfl) | with_reducible refine giv_intro fun _h => ?_ | with_reducible refine alt_intro ?_ fun _h => ?_ | with_reducible refine pickD_nil ?_ | (with_reducible refine brc (fun _h => ?_) fun _h => ?_) <;> first | (exfalso; omega) | simp only [decide_eq_false _h] | simp only [(_h : (_ : Bool) = _)] | simp only [decide_eq_true _h] | skip)
        (refine loopC hS [8, 28, 29] (by simp only [go_sem, Nat.reduceEqDiff, ↓reduceIte, reduceCtorEq, Nat.reduceAdd, Nat.reduceMul, Int.reduceToNat, List.reduceReplicate, Nat.reduceLeDiff, Nat.reduceLT, Int.reduceLT, Int.reduceLE, Int.reduceEq]; try rfl) (fun (k : Nat) => [(30, intA k)]) (fun (k : Nat) => [some (.row 23 1 [sl ([] : List Hung)])]) (fun (k : Nat) => k ≤ hs.length) (fun (k : Nat) => hs.length - k) (0) ?h01 ?hn1 ?rd1; case hn1 => (intro s; first | rfl | (rcases s with ⟨_, _⟩; rfl) | (rcases s with ⟨_, _, _⟩; rfl) | (rcases s with ⟨_, _, _, _⟩; rfl) | (rcases s with ⟨_, _, _, _, _⟩; rfl)))
        · simp (disch := omega) only [go_sem, Nat.reduceEqDiff, ↓reduceIte, reduceCtorEq, Nat.reduceAdd, Nat.reduceMul, Int.reduceToNat, List.reduceReplicate, Nat.reduceLeDiff, Nat.reduceLT, Int.reduceLT, Int.reduceLE, Int.reduceEq]; simp
          rfl
        rintro k hk1
        replace hk1 : k ≤ hs.length := hk1
        by_cases hkl : k < hs.length
        · repeat' (first | with_reducible refine inw ?_ | simp (disch := omega) only [go_sem, Nat.reduceEqDiff, ↓reduceIte, reduceCtorEq, Nat.reduceAdd, Nat.reduceMul, Int.reduceToNat, List.reduceReplicate, Nat.reduceLeDiff, Nat.reduceLT, Int.reduceLT, Int.reduceLE, Int.reduceEq] | with_reducible refine giv_intro fun _h => ?_ | with_reducible refine alt_intro ?_ fun _h => ?_ | with_reducible refine pickD_nil ?_ | (with_reducible refine brc (fun _h => ?_) fun _h => ?_) <;> first | (exfalso; omega) | simp only [decide_eq_false _h] | simp only [(_h : (_ : Bool) = _)] | simp only [decide_eq_true _h] | skip)
          (refine loopC hS [8, 10, 28, 29, 30, 35] (by simp only [go_sem, Nat.reduceEqDiff, ↓reduceIte, reduceCtorEq, Nat.reduceAdd, Nat.reduceMul, Int.reduceToNat, List.reduceReplicate, Nat.reduceLeDiff, Nat.reduceLT, Int.reduceLT, Int.reduceLE, Int.reduceEq]; try rfl) (fun (i : Nat) => [(36, intA 0)]) (fun (i : Nat) => [some (.row 23 1 [sl ([] : List Hung)]), none]) (fun (i : Nat) => True) (fun (i : Nat) => 0) (0) ?h02 ?hn2 ?rd2; case hn2 => (intro s; first | rfl | (rcases s with ⟨_, _⟩; rfl) | (rcases s with ⟨_, _, _⟩; rfl) | (rcases s with ⟨_, _, _, _⟩; rfl) | (rcases s with ⟨_, _, _, _, _⟩; rfl)))
          · simp (disch := omega) only [go_sem, Nat.reduceEqDiff, ↓reduceIte, reduceCtorEq, Nat.reduceAdd, Nat.reduceMul, Int.reduceToNat, List.reduceReplicate, Nat.reduceLeDiff, Nat.reduceLT, Int.reduceLT, Int.reduceLE, Int.reduceEq]
          rintro i _
          repeat' (first | with_reducible refine inw ?_ | simp (disch := omega) only [go_sem, Nat.reduceEqDiff, ↓reduceIte, reduceCtorEq, Nat.reduceAdd, Nat.reduceMul, Int.reduceToNat, List.reduceReplicate, Nat.reduceLeDiff, Nat.reduceLT, Int.reduceLT, Int.reduceLE, Int.reduceEq] | with_reducible refine giv_intro fun _h => ?_ | with_reducible refine alt_intro ?_ fun _h => ?_ | with_reducible refine pickD_nil ?_ | (with_reducible refine brc (fun _h => ?_) fun _h => ?_) <;> first | (exfalso; omega) | simp only [decide_eq_false _h] | simp only [(_h : (_ : Bool) = _)] | simp only [decide_eq_true _h] | skip)
          exact ⟨k + 1, ⟨by omega, by omega⟩, by omega⟩
        · repeat' (first | with_reducible refine inw ?_ | simp (disch := omega) only [go_sem, Nat.reduceEqDiff, ↓reduceIte, reduceCtorEq, Nat.reduceAdd, Nat.reduceMul, Int.reduceToNat, List.reduceReplicate, Nat.reduceLeDiff, Nat.reduceLT, Int.reduceLT, Int.reduceLE, Int.reduceEq] | (with_reducible apply call_lend (w1)); (focus simp (disch := omega) only [go_sem, Nat.reduceEqDiff, ↓reduceIte, reduceCtorEq, Nat.reduceAdd, Nat.reduceMul, Int.reduceToNat, List.reduceReplicate, Nat.reduceLeDiff, Nat.reduceLT, Int.reduceLT, Int.reduceLE, Int.reduceEq] <;> rfl); (focus rfl) | (with_reducible apply call_lend (w2)); (focus simp (disch := omega) only [go_sem, Nat.reduceEqDiff, ↓reduceIte, reduceCtorEq, Nat.reduceAdd, Nat.reduceMul, Int.reduceToNat, List.reduceReplicate, Nat.reduceLeDiff, Nat.reduceLT, Int.reduceLT, Int.reduceLE, Int.reduceEq] <;> rfl); (focus rfl) | with_reducible refine giv_intro fun _h => ?_ | with_reducible refine alt_intro ?_ fun _h => ?_ | with_reducible refine pickD_nil ?_ | (with_reducible refine brc (fun _h => ?_) fun _h => ?_) <;> first | (exfalso; omega) | simp only [decide_eq_false _h] | simp only [(_h : (_ : Bool) = _)] | simp only [decide_eq_true _h] | skip)
          (refine loopC hS [8, 14, 92] (by simp only [go_sem, Nat.reduceEqDiff, ↓reduceIte, reduceCtorEq, Nat.reduceAdd, Nat.reduceMul, Int.reduceToNat, List.reduceReplicate, Nat.reduceLeDiff, Nat.reduceLT, Int.reduceLT, Int.reduceLE, Int.reduceEq]; try rfl) (fun (i : Nat) => [(93, intA 0)]) (fun (i : Nat) => [some (.row 23 1 [sl ([] : List Hung)])]) (fun (i : Nat) => True) (fun (i : Nat) => 0) (0) ?h03 ?hn3 ?rd3; case hn3 => (intro s; first | rfl | (rcases s with ⟨_, _⟩; rfl) | (rcases s with ⟨_, _, _⟩; rfl) | (rcases s with ⟨_, _, _, _⟩; rfl) | (rcases s with ⟨_, _, _, _, _⟩; rfl)))
          · simp (disch := omega) only [go_sem, Nat.reduceEqDiff, ↓reduceIte, reduceCtorEq, Nat.reduceAdd, Nat.reduceMul, Int.reduceToNat, List.reduceReplicate, Nat.reduceLeDiff, Nat.reduceLT, Int.reduceLT, Int.reduceLE, Int.reduceEq]
          rintro i _
          repeat' (first | with_reducible refine inw ?_ | simp (disch := omega) only [go_sem, Nat.reduceEqDiff, ↓reduceIte, reduceCtorEq, Nat.reduceAdd, Nat.reduceMul, Int.reduceToNat, List.reduceReplicate, Nat.reduceLeDiff, Nat.reduceLT, Int.reduceLT, Int.reduceLE, Int.reduceEq] | with_reducible refine giv_intro fun _h => ?_ | with_reducible refine alt_intro ?_ fun _h => ?_ | with_reducible refine pickD_nil ?_ | (with_reducible refine brc (fun _h => ?_) fun _h => ?_) <;> first | (exfalso; omega) | simp only [decide_eq_false _h] | simp only [(_h : (_ : Bool) = _)] | simp only [decide_eq_true _h] | skip)
          rfl
      · (refine fn_look s15_ok (by simp) (by intro k; simp only [go_sem, Nat.reduceEqDiff, ↓reduceIte, reduceCtorEq, Nat.reduceAdd, Nat.reduceMul, Int.reduceToNat, List.reduceReplicate, Nat.reduceLeDiff, Nat.reduceLT, Int.reduceLT, Int.reduceLE, Int.reduceEq]) fun S hS => cwp_sound _ _ _ _ ?_; simp (disch := omega) only [s15, go_sem, Nat.reduceEqDiff, ↓reduceIte, reduceCtorEq, Nat.reduceAdd, Nat.reduceMul, Int.reduceToNat, List.reduceReplicate, Nat.reduceLeDiff, Nat.reduceLT, Int.reduceLT, Int.reduceLE, Int.reduceEq])
        repeat' (first | with_reducible refine inw ?_ | simp (disch := omega) only [go_sem, Nat.reduceEqDiff, ↓reduceIte, reduceCtorEq, Nat.reduceAdd, Nat.reduceMul, Int.reduceToNat, List.reduceReplicate, Nat.reduceLeDiff, Nat.reduceLT, Int.reduceLT, Int.reduceLE, Int.reduceEq] | (with_reducible apply call (c1)); (focus simp (disch := omega) only [go_sem, Nat.reduceEqDiff, ↓reduceIte, reduceCtorEq, Nat.reduceAdd, Nat.reduceMul, Int.reduceToNat, List.reduceReplicate, Nat.reduceLeDiff, Nat.reduceLT, Int.reduceLT, Int.reduceLE, Int.reduceEq] <;> rfl) | (with_reducible apply call (c2)); (focus simp (disch := omega) only [go_sem, Nat.reduceEqDiff, ↓reduceIte, reduceCtorEq, Nat.reduceAdd, Nat.reduceMul, Int.reduceToNat, List.reduceReplicate, Nat.reduceLeDiff, Nat.reduceLT, Int.reduceLT, Int.reduceLE, Int.reduceEq] <;> rfl) | with_reducible refine giv_intro fun _h => ?_ | with_reducible refine alt_intro ?_ fun _h => ?_ | with_reducible refine pickD_nil ?_ | (with_reducible refine brc (fun _h => ?_) fun _h => ?_) <;> first | (exfalso; omega) | simp only [decide_eq_false _h] | simp only [(_h : (_ : Bool) = _)] | simp only [decide_eq_true _h] | skip)
        refine callN (fresh_ok l lsm (by omega)) rfl ?_
        rintro L' r ⟨rfl, rfl⟩
        simp only [own, nm_stk, List.nil_append, List.length_nil, Nat.zero_add]
        repeat' (first | with_reducible refine inw ?_ | simp (disch := omega) only [go_sem, Nat.reduceEqDiff, ↓reduceIte, reduceCtorEq, Nat.reduceAdd, Nat.reduceMul, Int.reduceToNat, List.reduceReplicate, Nat.reduceLeDiff, Nat.reduceLT, Int.reduceLT, Int.reduceLE, Int.reduceEq] | with_reducible refine giv_intro fun _h => ?_ | with_reducible refine alt_intro ?_ fun _h => ?_ | with_reducible refine pickD_nil ?_ | (with_reducible refine brc (fun _h => ?_) fun _h => ?_) <;> first | (exfalso; omega) | simp only [decide_eq_false _h] | simp only [(_h : (_ : Bool) = _)] | simp only [decide_eq_true _h] | skip)
        (refine loopC hS [8, 28, 29] (by simp only [go_sem, Nat.reduceEqDiff, ↓reduceIte, reduceCtorEq, Nat.reduceAdd, Nat.reduceMul, Int.reduceToNat, List.reduceReplicate, Nat.reduceLeDiff, Nat.reduceLT, Int.reduceLT, Int.reduceLE, Int.reduceEq]; try rfl) (fun (⟨k, c⟩ : Nat × List Hung) => [(30, intA k)]) (fun (⟨k, c⟩ : Nat × List Hung) => [rowO 34 c, some (.row 23 1 [own S 0 c])]) (fun (⟨k, c⟩ : Nat × List Hung) => k ≤ hs.length ∧ c.length = l.length ∧ Hds c ∧ Ends c ∧ hooksF l.length hs l = hooksF l.length (hs.drop k) c) (fun (⟨k, c⟩ : Nat × List Hung) => hs.length - k) ((0, l)) ?h04 ?hn4 ?rd4; case hn4 => (intro s; first | rfl | (rcases s with ⟨_, _⟩; rfl) | (rcases s with ⟨_, _, _⟩; rfl) | (rcases s with ⟨_, _, _, _⟩; rfl) | (rcases s with ⟨_, _, _, _, _⟩; rfl)))
        · simp (disch := omega) only [go_sem, Nat.reduceEqDiff, ↓reduceIte, reduceCtorEq, Nat.reduceAdd, Nat.reduceMul, Int.reduceToNat, List.reduceReplicate, Nat.reduceLeDiff, Nat.reduceLT, Int.reduceLT, Int.reduceLE, Int.reduceEq]; simp
          exact ⟨v2, v3⟩
        rintro ⟨k, c⟩ ⟨hk1, hc, hh, hE, hI⟩
        replace hk1 : k ≤ hs.length := hk1
        replace hc : c.length = l.length := hc
        replace hh : Hds c := hh
        replace hE : Ends c := hE
        replace hI : hooksF l.length hs l = hooksF l.length (hs.drop k) c := hI
        by_cases hkl : k < hs.length
        · rw [nth_drop hkl, hooksF] at hI
          have hm := goodK_most hk (nth_mem hkl)
          generalize hgen : nth hs k = h at *
          repeat' (first | with_reducible refine inw ?_ | simp (disch := omega) only [go_sem, Nat.reduceEqDiff, ↓reduceIte, reduceCtorEq, Nat.reduceAdd, Nat.reduceMul, Int.reduceToNat, List.reduceReplicate, Nat.reduceLeDiff, Nat.reduceLT, Int.reduceLT, Int.reduceLE, Int.reduceEq, hgen] | with_reducible refine giv_intro fun _h => ?_ | with_reducible refine alt_intro ?_ fun _h => ?_ | with_reducible refine pickD_nil ?_ | (with_reducible refine brc (fun _h => ?_) fun _h => ?_) <;> first | (exfalso; omega) | simp only [decide_eq_false _h] | simp only [(_h : (_ : Bool) = _)] | simp only [decide_eq_true _h] | skip)
          (refine loopC hS [8, 10, 28, 29, 30, 35] (by simp only [go_sem, Nat.reduceEqDiff, ↓reduceIte, reduceCtorEq, Nat.reduceAdd, Nat.reduceMul, Int.reduceToNat, List.reduceReplicate, Nat.reduceLeDiff, Nat.reduceLT, Int.reduceLT, Int.reduceLE, Int.reduceEq]; try rfl) (fun (⟨i, d⟩ : Nat × List Hung) => [(36, intA i)]) (fun (⟨i, d⟩ : Nat × List Hung) => [rowO 34 d, some (.row 23 1 [own S 0 d]), some (.row 57 6 [sl h.1, sl h.2.1, sl h.2.2.1, intA h.2.2.2.1, intA h.2.2.2.2.1, strA h.2.2.2.2.2])]) (fun (⟨i, d⟩ : Nat × List Hung) => i ≤ l.length ∧ d.length = l.length ∧ Hds d ∧ Ends d ∧ hookG h l.length 0 c = hookG h (l.length - i) i d) (fun (⟨i, d⟩ : Nat × List Hung) => l.length - i) ((0, c)) ?h05 ?hn5 ?rd5; case hn5 => (intro s; first | rfl | (rcases s with ⟨_, _⟩; rfl) | (rcases s with ⟨_, _, _⟩; rfl) | (rcases s with ⟨_, _, _, _⟩; rfl) | (rcases s with ⟨_, _, _, _, _⟩; rfl)))
          · simp (disch := omega) only [go_sem, Nat.reduceEqDiff, ↓reduceIte, reduceCtorEq, Nat.reduceAdd, Nat.reduceMul, Int.reduceToNat, List.reduceReplicate, Nat.reduceLeDiff, Nat.reduceLT, Int.reduceLT, Int.reduceLE, Int.reduceEq]
            exact ⟨Nat.zero_le _, hc, hh, hE, rfl⟩
          rintro ⟨i, d⟩ ⟨hi, hd, hh', hE', hG⟩
          replace hi : i ≤ l.length := hi
          replace hd : d.length = l.length := hd
          replace hh' : Hds d := hh'
          replace hE' : Ends d := hE'
          replace hG : hookG h l.length 0 c = hookG h (l.length - i) i d := hG
          by_cases hil : i < l.length
          · rw [show l.length - i = (l.length - (i + 1)) + 1 by omega, hookG] at hG
            have hid : i < d.length := by omega
            have d1 := has_ok (nth d i) h.1
            have d2 := parent_ok d hh' hE' (by omega) i hid h hm
            have b1 := hungBy_len h hid
            have b2 := hungBy_ok h hid hh' hE'
            have ho : hungBy h d i = if (nth d i).2.1 = -2 ∧ hasB (nth d i).1 h.1 = true ∧ 0 ≤ parI h d i then setHd d i (parI h d i) h.2.2.2.2.2 else d := rfl
            have fin : ∀ e, hungBy h d i = e → ∃ s' : Nat × List Hung, (l.length - s'.1 < l.length - i ∧ s'.1 ≤ l.length ∧ s'.2.length = l.length ∧ Hds s'.2 ∧ Ends s'.2 ∧ hookG h l.length 0 c = hookG h (l.length - s'.1) s'.1 s'.2) ∧ (i : Int) + 1 = s'.1 ∧ cellsL e = cellsL s'.2 ∧ [own S 0 d] = [own S 0 s'.2] := fun e he => by
              rw [he] at b1 b2 hG
              refine ⟨(i + 1, e), ?_⟩
              dsimp only
              exact ⟨⟨by omega, by omega, by omega, b2.1, b2.2, hG⟩, by omega, rfl, by rw [own, own, b1]⟩
            by_cases q1 : (nth d i).2.1 = -2
            · repeat' (first | with_reducible refine inw ?_ | simp (disch := omega) only [go_sem, Nat.reduceEqDiff, ↓reduceIte, reduceCtorEq, Nat.reduceAdd, Nat.reduceMul, Int.reduceToNat, List.reduceReplicate, Nat.reduceLeDiff, Nat.reduceLT, Int.reduceLT, Int.reduceLE, Int.reduceEq, get_h0, get_h1, get_h2, get_hh, put_h1, put_hh2, putAt_len, q1] | (with_reducible apply call_D (d1)); (focus simp (disch := omega) only [go_sem, Nat.reduceEqDiff, ↓reduceIte, reduceCtorEq, Nat.reduceAdd, Nat.reduceMul, Int.reduceToNat, List.reduceReplicate, Nat.reduceLeDiff, Nat.reduceLT, Int.reduceLT, Int.reduceLE, Int.reduceEq, get_h0, get_h1, get_h2, get_hh, put_h1, put_hh2, putAt_len, q1] <;> rfl) | (with_reducible apply call_lend (d2)); (focus simp (disch := omega) only [go_sem, Nat.reduceEqDiff, ↓reduceIte, reduceCtorEq, Nat.reduceAdd, Nat.reduceMul, Int.reduceToNat, List.reduceReplicate, Nat.reduceLeDiff, Nat.reduceLT, Int.reduceLT, Int.reduceLE, Int.reduceEq, get_h0, get_h1, get_h2, get_hh, put_h1, put_hh2, putAt_len, q1] <;> rfl); (focus rfl) | with_reducible refine giv_intro fun _h => ?_ | with_reducible refine alt_intro ?_ fun _h => ?_ | with_reducible refine pickD_nil ?_ | (with_reducible refine brc (fun _h => ?_) fun _h => ?_) <;> first | (exfalso; omega) | simp only [decide_eq_false _h] | simp only [(_h : (_ : Bool) = _)] | simp only [decide_eq_true _h] | skip)
              all_goals first
                | exact fin _ (by rw [ho, if_pos ⟨q1, by assumption, by assumption⟩]; rfl)
                | exact fin _ (by rw [ho, if_neg (fun q => by rw [q.2.1] at _h; cases _h)])
                | exact fin _ (by rw [ho, if_neg (fun q => _h q.2.2)])
            · repeat' (first | with_reducible refine inw ?_ | simp (disch := omega) only [go_sem, Nat.reduceEqDiff, ↓reduceIte, reduceCtorEq, Nat.reduceAdd, Nat.reduceMul, Int.reduceToNat, List.reduceReplicate, Nat.reduceLeDiff, Nat.reduceLT, Int.reduceLT, Int.reduceLE, Int.reduceEq, get_h0, get_h1, get_h2, get_hh, put_h1, put_hh2, putAt_len] | (with_reducible apply call_D (d1)); (focus simp (disch := omega) only [go_sem, Nat.reduceEqDiff, ↓reduceIte, reduceCtorEq, Nat.reduceAdd, Nat.reduceMul, Int.reduceToNat, List.reduceReplicate, Nat.reduceLeDiff, Nat.reduceLT, Int.reduceLT, Int.reduceLE, Int.reduceEq, get_h0, get_h1, get_h2, get_hh, put_h1, put_hh2, putAt_len] <;> rfl) | (with_reducible apply call_lend (d2)); (focus simp (disch := omega) only [go_sem, Nat.reduceEqDiff, ↓reduceIte, reduceCtorEq, Nat.reduceAdd, Nat.reduceMul, Int.reduceToNat, List.reduceReplicate, Nat.reduceLeDiff, Nat.reduceLT, Int.reduceLT, Int.reduceLE, Int.reduceEq, get_h0, get_h1, get_h2, get_hh, put_h1, put_hh2, putAt_len] <;> rfl); (focus rfl) | with_reducible refine giv_intro fun _h => ?_ | with_reducible refine alt_intro ?_ fun _h => ?_ | with_reducible refine pickD_nil ?_ | (with_reducible refine brc (fun _h => ?_) fun _h => ?_) <;> first | (exfalso; omega) | simp only [decide_eq_false _h] | simp only [(_h : (_ : Bool) = _)] | simp only [decide_eq_true _h] | skip)
              all_goals first
                | exact fin _ (by rw [ho, if_neg (fun q => q1 q.1)])
                | (exfalso; exact q1 (by assumption))
          · rw [show l.length - i = 0 by omega, hookG] at hG
            repeat' (first | with_reducible refine inw ?_ | simp (disch := omega) only [go_sem, Nat.reduceEqDiff, ↓reduceIte, reduceCtorEq, Nat.reduceAdd, Nat.reduceMul, Int.reduceToNat, List.reduceReplicate, Nat.reduceLeDiff, Nat.reduceLT, Int.reduceLT, Int.reduceLE, Int.reduceEq] | with_reducible refine giv_intro fun _h => ?_ | with_reducible refine alt_intro ?_ fun _h => ?_ | with_reducible refine pickD_nil ?_ | (with_reducible refine brc (fun _h => ?_) fun _h => ?_) <;> first | (exfalso; omega) | simp only [decide_eq_false _h] | simp only [(_h : (_ : Bool) = _)] | simp only [decide_eq_true _h] | skip)
            refine ⟨(k + 1, d), ?_⟩
            dsimp only
            exact ⟨⟨by omega, by omega, hd, hh', hE', by rw [hI, hG]⟩, by omega, rfl, rfl⟩
        · rw [List.drop_eq_nil_of_le (by omega), hooksF] at hI
          rw [hangL, hI]
          have w1 := with_ok c (-1)
          have w2 := with_ok c (-2)
          have hr : rootT c = if idxH c (-1) < 0 then (if 0 ≤ idxH c (-2) then setHd c (idxH c (-2)).toNat (-1) ⟨#[114, 111, 111, 116]⟩ else c, idxH c (-2)) else (c, idxH c (-1)) := rfl
          have hx1 := idxH_range c (-1)
          have hx2 := idxH_range c (-2)
          by_cases r1 : idxH c (-1) < 0
          · rw [if_pos r1] at hr
            by_cases r2 : 0 ≤ idxH c (-2)
            · rw [if_pos r2] at hr
              repeat' (first | with_reducible refine inw ?_ | simp (disch := omega) only [go_sem, Nat.reduceEqDiff, ↓reduceIte, reduceCtorEq, Nat.reduceAdd, Nat.reduceMul, Int.reduceToNat, List.reduceReplicate, Nat.reduceLeDiff, Nat.reduceLT, Int.reduceLT, Int.reduceLE, Int.reduceEq, put_h1, put_hh2, putAt_len] | (with_reducible apply call_lend (w1)); (focus simp (disch := omega) only [go_sem, Nat.reduceEqDiff, ↓reduceIte, reduceCtorEq, Nat.reduceAdd, Nat.reduceMul, Int.reduceToNat, List.reduceReplicate, Nat.reduceLeDiff, Nat.reduceLT, Int.reduceLT, Int.reduceLE, Int.reduceEq, put_h1, put_hh2, putAt_len] <;> rfl); (focus rfl) | (with_reducible apply call_lend (w2)); (focus simp (disch := omega) only [go_sem, Nat.reduceEqDiff, ↓reduceIte, reduceCtorEq, Nat.reduceAdd, Nat.reduceMul, Int.reduceToNat, List.reduceReplicate, Nat.reduceLeDiff, Nat.reduceLT, Int.reduceLT, Int.reduceLE, Int.reduceEq, put_h1, put_hh2, putAt_len] <;> rfl); (focus rfl) | with_reducible refine giv_intro fun _h => ?_ | with_reducible refine alt_intro ?_ fun _h => ?_ | with_reducible refine pickD_nil ?_ | (with_reducible refine brc (fun _h => ?_) fun _h => ?_) <;> first | (exfalso; omega) | simp only [decide_eq_false _h] | simp only [(_h : (_ : Bool) = _)] | simp only [decide_eq_true _h] | skip)
              (refine loopC hS [8, 14, 92] (by simp only [go_sem, Nat.reduceEqDiff, ↓reduceIte, reduceCtorEq, Nat.reduceAdd, Nat.reduceMul, Int.reduceToNat, List.reduceReplicate, Nat.reduceLeDiff, Nat.reduceLT, Int.reduceLT, Int.reduceLE, Int.reduceEq]; try rfl) (fun (⟨i, d⟩ : Nat × List Hung) => [(93, intA i)]) (fun (⟨i, d⟩ : Nat × List Hung) => [rowO 34 d, some (.row 23 1 [own S 0 d])]) (fun (⟨i, d⟩ : Nat × List Hung) => i ≤ l.length ∧ d.length = l.length ∧ depG (idxH c (-2)) l.length 0 (setHd c (idxH c (-2)).toNat (-1) ⟨#[114, 111, 111, 116]⟩) = depG (idxH c (-2)) (l.length - i) i d) (fun (⟨i, d⟩ : Nat × List Hung) => l.length - i) ((0, setHd c (idxH c (-2)).toNat (-1) ⟨#[114, 111, 111, 116]⟩)) ?h06 ?hn6 ?rd6; case hn6 => (intro s; first | rfl | (rcases s with ⟨_, _⟩; rfl) | (rcases s with ⟨_, _, _⟩; rfl) | (rcases s with ⟨_, _, _, _⟩; rfl) | (rcases s with ⟨_, _, _, _, _⟩; rfl)))
              · simp (disch := omega) only [go_sem, Nat.reduceEqDiff, ↓reduceIte, reduceCtorEq, Nat.reduceAdd, Nat.reduceMul, Int.reduceToNat, List.reduceReplicate, Nat.reduceLeDiff, Nat.reduceLT, Int.reduceLT, Int.reduceLE, Int.reduceEq]
                refine ⟨⟨Nat.zero_le _, by rw [setHd_len (by omega)]; exact hc, rfl⟩, rfl, by rw [own, own, setHd_len (by omega)]⟩
              rintro ⟨i, d⟩ ⟨hi, hd, hG⟩
              replace hi : i ≤ l.length := hi
              replace hd : d.length = l.length := hd
              replace hG : depG (idxH c (-2)) l.length 0 (setHd c (idxH c (-2)).toNat (-1) ⟨#[114, 111, 111, 116]⟩) = depG (idxH c (-2)) (l.length - i) i d := hG
              by_cases hil : i < l.length
              · rw [show l.length - i = (l.length - (i + 1)) + 1 by omega, depG] at hG
                have hid : i < d.length := by omega
                have ho : depOf (idxH c (-2)) d i = if (nth d i).2.1 = -2 then setHd d i (idxH c (-2)) ⟨#[100, 101, 112]⟩ else d := rfl
                have b1 : (depOf (idxH c (-2)) d i).length = d.length := by
                  rw [ho]; split
                  · exact setHd_len hid _ _
                  · rfl
                have fin : ∀ e, depOf (idxH c (-2)) d i = e → ∃ s' : Nat × List Hung, (l.length - s'.1 < l.length - i ∧ s'.1 ≤ l.length ∧ s'.2.length = l.length ∧ depG (idxH c (-2)) l.length 0 (setHd c (idxH c (-2)).toNat (-1) ⟨#[114, 111, 111, 116]⟩) = depG (idxH c (-2)) (l.length - s'.1) s'.1 s'.2) ∧ (i : Int) + 1 = s'.1 ∧ cellsL e = cellsL s'.2 ∧ [own S 0 d] = [own S 0 s'.2] := fun e he => by
                  rw [he] at b1 hG
                  refine ⟨(i + 1, e), ?_⟩
                  dsimp only
                  exact ⟨⟨by omega, by omega, by omega, hG⟩, by omega, rfl, by rw [own, own, b1]⟩
                repeat' (first | with_reducible refine inw ?_ | simp (disch := omega) only [go_sem, Nat.reduceEqDiff, ↓reduceIte, reduceCtorEq, Nat.reduceAdd, Nat.reduceMul, Int.reduceToNat, List.reduceReplicate, Nat.reduceLeDiff, Nat.reduceLT, Int.reduceLT, Int.reduceLE, Int.reduceEq, get_h0, get_h1, get_h2, get_hh, put_h1, put_hh2, putAt_len] | with_reducible refine giv_intro fun _h => ?_ | with_reducible refine alt_intro ?_ fun _h => ?_ | with_reducible refine pickD_nil ?_ | (with_reducible refine brc (fun _h => ?_) fun _h => ?_) <;> first | (exfalso; omega) | simp only [decide_eq_false _h] | simp only [(_h : (_ : Bool) = _)] | simp only [decide_eq_true _h] | skip)
                all_goals first
                  | exact fin _ (by rw [ho, if_pos (by assumption)]; rfl)
                  | exact fin _ (by rw [ho, if_neg (by assumption)])
              · rw [show l.length - i = 0 by omega, depG] at hG
                rw [hr]
                dsimp only
                rw [hG]
                repeat' (first | with_reducible refine inw ?_ | simp (disch := omega) only [go_sem, Nat.reduceEqDiff, ↓reduceIte, reduceCtorEq, Nat.reduceAdd, Nat.reduceMul, Int.reduceToNat, List.reduceReplicate, Nat.reduceLeDiff, Nat.reduceLT, Int.reduceLT, Int.reduceLE, Int.reduceEq] | with_reducible refine giv_intro fun _h => ?_ | with_reducible refine alt_intro ?_ fun _h => ?_ | with_reducible refine pickD_nil ?_ | (with_reducible refine brc (fun _h => ?_) fun _h => ?_) <;> first | (exfalso; omega) | simp only [decide_eq_false _h] | simp only [(_h : (_ : Bool) = _)] | simp only [decide_eq_true _h] | skip)
            · rw [if_neg r2] at hr
              repeat' (first | with_reducible refine inw ?_ | simp (disch := omega) only [go_sem, Nat.reduceEqDiff, ↓reduceIte, reduceCtorEq, Nat.reduceAdd, Nat.reduceMul, Int.reduceToNat, List.reduceReplicate, Nat.reduceLeDiff, Nat.reduceLT, Int.reduceLT, Int.reduceLE, Int.reduceEq] | (with_reducible apply call_lend (w1)); (focus simp (disch := omega) only [go_sem, Nat.reduceEqDiff, ↓reduceIte, reduceCtorEq, Nat.reduceAdd, Nat.reduceMul, Int.reduceToNat, List.reduceReplicate, Nat.reduceLeDiff, Nat.reduceLT, Int.reduceLT, Int.reduceLE, Int.reduceEq] <;> rfl); (focus rfl) | (with_reducible apply call_lend (w2)); (focus simp (disch := omega) only [go_sem, Nat.reduceEqDiff, ↓reduceIte, reduceCtorEq, Nat.reduceAdd, Nat.reduceMul, Int.reduceToNat, List.reduceReplicate, Nat.reduceLeDiff, Nat.reduceLT, Int.reduceLT, Int.reduceLE, Int.reduceEq] <;> rfl); (focus rfl) | with_reducible refine giv_intro fun _h => ?_ | with_reducible refine alt_intro ?_ fun _h => ?_ | with_reducible refine pickD_nil ?_ | (with_reducible refine brc (fun _h => ?_) fun _h => ?_) <;> first | (exfalso; omega) | simp only [decide_eq_false _h] | simp only [(_h : (_ : Bool) = _)] | simp only [decide_eq_true _h] | skip)
              (refine loopC hS [8, 14, 92] (by simp only [go_sem, Nat.reduceEqDiff, ↓reduceIte, reduceCtorEq, Nat.reduceAdd, Nat.reduceMul, Int.reduceToNat, List.reduceReplicate, Nat.reduceLeDiff, Nat.reduceLT, Int.reduceLT, Int.reduceLE, Int.reduceEq]; try rfl) (fun (⟨i, d⟩ : Nat × List Hung) => [(93, intA i)]) (fun (⟨i, d⟩ : Nat × List Hung) => [rowO 34 d, some (.row 23 1 [own S 0 d])]) (fun (⟨i, d⟩ : Nat × List Hung) => i ≤ l.length ∧ d.length = l.length ∧ depG (idxH c (-2)) l.length 0 (c) = depG (idxH c (-2)) (l.length - i) i d) (fun (⟨i, d⟩ : Nat × List Hung) => l.length - i) ((0, c)) ?h07 ?hn7 ?rd7; case hn7 => (intro s; first | rfl | (rcases s with ⟨_, _⟩; rfl) | (rcases s with ⟨_, _, _⟩; rfl) | (rcases s with ⟨_, _, _, _⟩; rfl) | (rcases s with ⟨_, _, _, _, _⟩; rfl)))
              · simp (disch := omega) only [go_sem, Nat.reduceEqDiff, ↓reduceIte, reduceCtorEq, Nat.reduceAdd, Nat.reduceMul, Int.reduceToNat, List.reduceReplicate, Nat.reduceLeDiff, Nat.reduceLT, Int.reduceLT, Int.reduceLE, Int.reduceEq]
                exact ⟨Nat.zero_le _, hc, rfl⟩
              rintro ⟨i, d⟩ ⟨hi, hd, hG⟩
              replace hi : i ≤ l.length := hi
              replace hd : d.length = l.length := hd
              replace hG : depG (idxH c (-2)) l.length 0 (c) = depG (idxH c (-2)) (l.length - i) i d := hG
              by_cases hil : i < l.length
              · rw [show l.length - i = (l.length - (i + 1)) + 1 by omega, depG] at hG
                have hid : i < d.length := by omega
                have ho : depOf (idxH c (-2)) d i = if (nth d i).2.1 = -2 then setHd d i (idxH c (-2)) ⟨#[100, 101, 112]⟩ else d := rfl
                have b1 : (depOf (idxH c (-2)) d i).length = d.length := by
                  rw [ho]; split
                  · exact setHd_len hid _ _
                  · rfl
                have fin : ∀ e, depOf (idxH c (-2)) d i = e → ∃ s' : Nat × List Hung, (l.length - s'.1 < l.length - i ∧ s'.1 ≤ l.length ∧ s'.2.length = l.length ∧ depG (idxH c (-2)) l.length 0 (c) = depG (idxH c (-2)) (l.length - s'.1) s'.1 s'.2) ∧ (i : Int) + 1 = s'.1 ∧ cellsL e = cellsL s'.2 ∧ [own S 0 d] = [own S 0 s'.2] := fun e he => by
                  rw [he] at b1 hG
                  refine ⟨(i + 1, e), ?_⟩
                  dsimp only
                  exact ⟨⟨by omega, by omega, by omega, hG⟩, by omega, rfl, by rw [own, own, b1]⟩
                repeat' (first | with_reducible refine inw ?_ | simp (disch := omega) only [go_sem, Nat.reduceEqDiff, ↓reduceIte, reduceCtorEq, Nat.reduceAdd, Nat.reduceMul, Int.reduceToNat, List.reduceReplicate, Nat.reduceLeDiff, Nat.reduceLT, Int.reduceLT, Int.reduceLE, Int.reduceEq, get_h0, get_h1, get_h2, get_hh, put_h1, put_hh2, putAt_len] | with_reducible refine giv_intro fun _h => ?_ | with_reducible refine alt_intro ?_ fun _h => ?_ | with_reducible refine pickD_nil ?_ | (with_reducible refine brc (fun _h => ?_) fun _h => ?_) <;> first | (exfalso; omega) | simp only [decide_eq_false _h] | simp only [(_h : (_ : Bool) = _)] | simp only [decide_eq_true _h] | skip)
                all_goals first
                  | exact fin _ (by rw [ho, if_pos (by assumption)]; rfl)
                  | exact fin _ (by rw [ho, if_neg (by assumption)])
              · rw [show l.length - i = 0 by omega, depG] at hG
                rw [hr]
                dsimp only
                rw [hG]
                repeat' (first | with_reducible refine inw ?_ | simp (disch := omega) only [go_sem, Nat.reduceEqDiff, ↓reduceIte, reduceCtorEq, Nat.reduceAdd, Nat.reduceMul, Int.reduceToNat, List.reduceReplicate, Nat.reduceLeDiff, Nat.reduceLT, Int.reduceLT, Int.reduceLE, Int.reduceEq] | with_reducible refine giv_intro fun _h => ?_ | with_reducible refine alt_intro ?_ fun _h => ?_ | with_reducible refine pickD_nil ?_ | (with_reducible refine brc (fun _h => ?_) fun _h => ?_) <;> first | (exfalso; omega) | simp only [decide_eq_false _h] | simp only [(_h : (_ : Bool) = _)] | simp only [decide_eq_true _h] | skip)
          · rw [if_neg r1] at hr
            repeat' (first | with_reducible refine inw ?_ | simp (disch := omega) only [go_sem, Nat.reduceEqDiff, ↓reduceIte, reduceCtorEq, Nat.reduceAdd, Nat.reduceMul, Int.reduceToNat, List.reduceReplicate, Nat.reduceLeDiff, Nat.reduceLT, Int.reduceLT, Int.reduceLE, Int.reduceEq] | (with_reducible apply call_lend (w1)); (focus simp (disch := omega) only [go_sem, Nat.reduceEqDiff, ↓reduceIte, reduceCtorEq, Nat.reduceAdd, Nat.reduceMul, Int.reduceToNat, List.reduceReplicate, Nat.reduceLeDiff, Nat.reduceLT, Int.reduceLT, Int.reduceLE, Int.reduceEq] <;> rfl); (focus rfl) | (with_reducible apply call_lend (w2)); (focus simp (disch := omega) only [go_sem, Nat.reduceEqDiff, ↓reduceIte, reduceCtorEq, Nat.reduceAdd, Nat.reduceMul, Int.reduceToNat, List.reduceReplicate, Nat.reduceLeDiff, Nat.reduceLT, Int.reduceLT, Int.reduceLE, Int.reduceEq] <;> rfl); (focus rfl) | with_reducible refine giv_intro fun _h => ?_ | with_reducible refine alt_intro ?_ fun _h => ?_ | with_reducible refine pickD_nil ?_ | (with_reducible refine brc (fun _h => ?_) fun _h => ?_) <;> first | (exfalso; omega) | simp only [decide_eq_false _h] | simp only [(_h : (_ : Bool) = _)] | simp only [decide_eq_true _h] | skip)
            (refine loopC hS [8, 14, 92] (by simp only [go_sem, Nat.reduceEqDiff, ↓reduceIte, reduceCtorEq, Nat.reduceAdd, Nat.reduceMul, Int.reduceToNat, List.reduceReplicate, Nat.reduceLeDiff, Nat.reduceLT, Int.reduceLT, Int.reduceLE, Int.reduceEq]; try rfl) (fun (⟨i, d⟩ : Nat × List Hung) => [(93, intA i)]) (fun (⟨i, d⟩ : Nat × List Hung) => [rowO 34 d, some (.row 23 1 [own S 0 d])]) (fun (⟨i, d⟩ : Nat × List Hung) => i ≤ l.length ∧ d.length = l.length ∧ depG (idxH c (-1)) l.length 0 (c) = depG (idxH c (-1)) (l.length - i) i d) (fun (⟨i, d⟩ : Nat × List Hung) => l.length - i) ((0, c)) ?h08 ?hn8 ?rd8; case hn8 => (intro s; first | rfl | (rcases s with ⟨_, _⟩; rfl) | (rcases s with ⟨_, _, _⟩; rfl) | (rcases s with ⟨_, _, _, _⟩; rfl) | (rcases s with ⟨_, _, _, _, _⟩; rfl)))
            · simp (disch := omega) only [go_sem, Nat.reduceEqDiff, ↓reduceIte, reduceCtorEq, Nat.reduceAdd, Nat.reduceMul, Int.reduceToNat, List.reduceReplicate, Nat.reduceLeDiff, Nat.reduceLT, Int.reduceLT, Int.reduceLE, Int.reduceEq]
              exact ⟨Nat.zero_le _, hc, rfl⟩
            rintro ⟨i, d⟩ ⟨hi, hd, hG⟩
            replace hi : i ≤ l.length := hi
            replace hd : d.length = l.length := hd
            replace hG : depG (idxH c (-1)) l.length 0 (c) = depG (idxH c (-1)) (l.length - i) i d := hG
            by_cases hil : i < l.length
            · rw [show l.length - i = (l.length - (i + 1)) + 1 by omega, depG] at hG
              have hid : i < d.length := by omega
              have ho : depOf (idxH c (-1)) d i = if (nth d i).2.1 = -2 then setHd d i (idxH c (-1)) ⟨#[100, 101, 112]⟩ else d := rfl
              have b1 : (depOf (idxH c (-1)) d i).length = d.length := by
                rw [ho]; split
                · exact setHd_len hid _ _
                · rfl
              have fin : ∀ e, depOf (idxH c (-1)) d i = e → ∃ s' : Nat × List Hung, (l.length - s'.1 < l.length - i ∧ s'.1 ≤ l.length ∧ s'.2.length = l.length ∧ depG (idxH c (-1)) l.length 0 (c) = depG (idxH c (-1)) (l.length - s'.1) s'.1 s'.2) ∧ (i : Int) + 1 = s'.1 ∧ cellsL e = cellsL s'.2 ∧ [own S 0 d] = [own S 0 s'.2] := fun e he => by
                rw [he] at b1 hG
                refine ⟨(i + 1, e), ?_⟩
                dsimp only
                exact ⟨⟨by omega, by omega, by omega, hG⟩, by omega, rfl, by rw [own, own, b1]⟩
              repeat' (first | with_reducible refine inw ?_ | simp (disch := omega) only [go_sem, Nat.reduceEqDiff, ↓reduceIte, reduceCtorEq, Nat.reduceAdd, Nat.reduceMul, Int.reduceToNat, List.reduceReplicate, Nat.reduceLeDiff, Nat.reduceLT, Int.reduceLT, Int.reduceLE, Int.reduceEq, get_h0, get_h1, get_h2, get_hh, put_h1, put_hh2, putAt_len] | with_reducible refine giv_intro fun _h => ?_ | with_reducible refine alt_intro ?_ fun _h => ?_ | with_reducible refine pickD_nil ?_ | (with_reducible refine brc (fun _h => ?_) fun _h => ?_) <;> first | (exfalso; omega) | simp only [decide_eq_false _h] | simp only [(_h : (_ : Bool) = _)] | simp only [decide_eq_true _h] | skip)
              all_goals first
                | exact fin _ (by rw [ho, if_pos (by assumption)]; rfl)
                | exact fin _ (by rw [ho, if_neg (by assumption)])
            · rw [show l.length - i = 0 by omega, depG] at hG
              rw [hr]
              dsimp only
              rw [hG]
              repeat' (first | with_reducible refine inw ?_ | simp (disch := omega) only [go_sem, Nat.reduceEqDiff, ↓reduceIte, reduceCtorEq, Nat.reduceAdd, Nat.reduceMul, Int.reduceToNat, List.reduceReplicate, Nat.reduceLeDiff, Nat.reduceLT, Int.reduceLT, Int.reduceLE, Int.reduceEq] | with_reducible refine giv_intro fun _h => ?_ | with_reducible refine alt_intro ?_ fun _h => ?_ | with_reducible refine pickD_nil ?_ | (with_reducible refine brc (fun _h => ?_) fun _h => ?_) <;> first | (exfalso; omega) | simp only [decide_eq_false _h] | simp only [(_h : (_ : Bool) = _)] | simp only [decide_eq_true _h] | skip)
    · rw [hk] at c1
      rw [hangT, if_neg (by omega), if_pos hv]
      (refine fn_look s15_ok (by simp) (by intro k; simp only [go_sem, Nat.reduceEqDiff, ↓reduceIte, reduceCtorEq, Nat.reduceAdd, Nat.reduceMul, Int.reduceToNat, List.reduceReplicate, Nat.reduceLeDiff, Nat.reduceLT, Int.reduceLT, Int.reduceLE, Int.reduceEq]) fun S hS => cwp_sound _ _ _ _ ?_; simp (disch := omega) only [s15, go_sem, Nat.reduceEqDiff, ↓reduceIte, reduceCtorEq, Nat.reduceAdd, Nat.reduceMul, Int.reduceToNat, List.reduceReplicate, Nat.reduceLeDiff, Nat.reduceLT, Int.reduceLT, Int.reduceLE, Int.reduceEq])
      repeat' (first | with_reducible refine inw ?_ | simp (disch := omega) only [go_sem, Nat.reduceEqDiff, ↓reduceIte, reduceCtorEq, Nat.reduceAdd, Nat.reduceMul, Int.reduceToNat, List.reduceReplicate, Nat.reduceLeDiff, Nat.reduceLT, Int.reduceLT, Int.reduceLE, Int.reduceEq] | (with_reducible apply call (c1)); (focus simp (disch := omega) only [go_sem, Nat.reduceEqDiff, ↓reduceIte, reduceCtorEq, Nat.reduceAdd, Nat.reduceMul, Int.reduceToNat, List.reduceReplicate, Nat.reduceLeDiff, Nat.reduceLT, Int.reduceLT, Int.reduceLE, Int.reduceEq] <;> rfl) | (with_reducible apply call (c2)); (focus simp (disch := omega) only [go_sem, Nat.reduceEqDiff, ↓reduceIte, reduceCtorEq, Nat.reduceAdd, Nat.reduceMul, Int.reduceToNat, List.reduceReplicate, Nat.reduceLeDiff, Nat.reduceLT, Int.reduceLT, Int.reduceLE, Int.reduceEq] <;> rfl) | with_reducible refine giv_intro fun _h => ?_ | with_reducible refine alt_intro ?_ fun _h => ?_ | with_reducible refine pickD_nil ?_ | (with_reducible refine brc (fun _h => ?_) fun _h => ?_) <;> first | (exfalso; omega) | simp only [decide_eq_false _h] | simp only [(_h : (_ : Bool) = _)] | simp only [decide_eq_true _h] | skip)
      all_goals rfl
  · rw [hangT, if_pos hk]
    (refine fn_look s15_ok (by simp) (by intro k; simp only [go_sem, Nat.reduceEqDiff, ↓reduceIte, reduceCtorEq, Nat.reduceAdd, Nat.reduceMul, Int.reduceToNat, List.reduceReplicate, Nat.reduceLeDiff, Nat.reduceLT, Int.reduceLT, Int.reduceLE, Int.reduceEq]) fun S hS => cwp_sound _ _ _ _ ?_; simp (disch := omega) only [s15, go_sem, Nat.reduceEqDiff, ↓reduceIte, reduceCtorEq, Nat.reduceAdd, Nat.reduceMul, Int.reduceToNat, List.reduceReplicate, Nat.reduceLeDiff, Nat.reduceLT, Int.reduceLT, Int.reduceLE, Int.reduceEq])
    repeat' (first | with_reducible refine inw ?_ | simp (disch := omega) only [go_sem, Nat.reduceEqDiff, ↓reduceIte, reduceCtorEq, Nat.reduceAdd, Nat.reduceMul, Int.reduceToNat, List.reduceReplicate, Nat.reduceLeDiff, Nat.reduceLT, Int.reduceLT, Int.reduceLE, Int.reduceEq] | (with_reducible apply call (c1)); (focus simp (disch := omega) only [go_sem, Nat.reduceEqDiff, ↓reduceIte, reduceCtorEq, Nat.reduceAdd, Nat.reduceMul, Int.reduceToNat, List.reduceReplicate, Nat.reduceLeDiff, Nat.reduceLT, Int.reduceLT, Int.reduceLE, Int.reduceEq] <;> rfl) | (with_reducible apply call (c2)); (focus simp (disch := omega) only [go_sem, Nat.reduceEqDiff, ↓reduceIte, reduceCtorEq, Nat.reduceAdd, Nat.reduceMul, Int.reduceToNat, List.reduceReplicate, Nat.reduceLeDiff, Nat.reduceLT, Int.reduceLT, Int.reduceLE, Int.reduceEq] <;> rfl) | with_reducible refine giv_intro fun _h => ?_ | with_reducible refine alt_intro ?_ fun _h => ?_ | with_reducible refine pickD_nil ?_ | (with_reducible refine brc (fun _h => ?_) fun _h => ?_) <;> first | (exfalso; omega) | simp only [decide_eq_false _h] | simp only [(_h : (_ : Bool) = _)] | simp only [decide_eq_true _h] | skip)
    all_goals rfl
abbrev sDet : Str := ⟨#[68, 101, 116]⟩
abbrev sN : Str := ⟨#[78]⟩
abbrev sV : Str := ⟨#[86]⟩
abbrev exK : List Hook := [([sDet], [sN], [], 1, 5, ⟨#[100, 101, 116]⟩), ([sN], [sV], [], 1, 5, ⟨#[115, 117, 98, 106]⟩)]
abbrev exH : List Hung := [([sDet], -2, ⟨#[]⟩), ([sN], -2, ⟨#[]⟩), ([sV], -2, ⟨#[]⟩)]
theorem ex_hang : hangT exK exH = ([([sDet], 1, ⟨#[100, 101, 116]⟩), ([sN], 2, ⟨#[115, 117, 98, 106]⟩), ([sV], -1, ⟨#[114, 111, 111, 116]⟩)], 0) := by kernel_rfl
/-- ablaut/ablautlaw21.known: 0 parameters, 0 captured -/
def s14 : SC := .seq (.reg [o1 0 (.mv (cB false))])
  (.seq (.reg [o1 4 (.buildSl 9 1 1 [(.string ⟨#[]⟩)] [(0, 1, (.c (.string ⟨#[68, 101, 116]⟩)))]),
    o1 5 (.buildSl 9 1 1 [(.string ⟨#[]⟩)] [(0, 1, (.c (.string ⟨#[78]⟩)))]),
    o1 6 (.build [(.slice none 0 0), (.slice none 0 0), (.slice none 0 0), (.int .i64 0), (.int .i64 0), (.string ⟨#[]⟩)] [(0, 1, (.t 4)), (1, 1, (.t 5)), (3, 1, (cI 1)), (4, 1, (cI 5)), (5, 1, (.c (.string ⟨#[100, 101, 116]⟩)))]),
    o1 7 (.buildSl 9 1 1 [(.string ⟨#[]⟩)] [(0, 1, (.c (.string ⟨#[78]⟩)))]),
    o1 8 (.buildSl 9 1 1 [(.string ⟨#[]⟩)] [(0, 1, (.c (.string ⟨#[86]⟩)))]),
    o1 9 (.build [(.slice none 0 0), (.slice none 0 0), (.slice none 0 0), (.int .i64 0), (.int .i64 0), (.string ⟨#[]⟩)] [(0, 1, (.t 7)), (1, 1, (.t 8)), (3, 1, (cI 1)), (4, 1, (cI 5)), (5, 1, (.c (.string ⟨#[115, 117, 98, 106]⟩)))]),
    o1 10 (.buildSl 57 6 2 [(.slice none 0 0), (.slice none 0 0), (.slice none 0 0), (.int .i64 0), (.int .i64 0), (.string ⟨#[]⟩)] [(0, 6, (.t 6)), (6, 6, (.t 9))]),
    o1 1 (.mv (.t 10))])
   (.seq (.reg [o1 12 (.mv (.t 1)),
     o1 13 (.buildSl 9 1 1 [(.string ⟨#[]⟩)] [(0, 1, (.c (.string ⟨#[68, 101, 116]⟩)))]),
     o1 14 (.build [(.slice none 0 0), (.int .i64 0), (.string ⟨#[]⟩)] [(0, 1, (.t 13)), (1, 1, (cI (-2)))]),
     o1 15 (.buildSl 9 1 1 [(.string ⟨#[]⟩)] [(0, 1, (.c (.string ⟨#[78]⟩)))]),
     o1 16 (.build [(.slice none 0 0), (.int .i64 0), (.string ⟨#[]⟩)] [(0, 1, (.t 15)), (1, 1, (cI (-2)))]),
     o1 17 (.buildSl 9 1 1 [(.string ⟨#[]⟩)] [(0, 1, (.c (.string ⟨#[86]⟩)))]),
     o1 18 (.build [(.slice none 0 0), (.int .i64 0), (.string ⟨#[]⟩)] [(0, 1, (.t 17)), (1, 1, (cI (-2)))]),
     o1 19 (.buildSl 34 3 3 [(.slice none 0 0), (.int .i64 0), (.string ⟨#[]⟩)] [(0, 3, (.t 14)), (3, 3, (.t 16)), (6, 3, (.t 18))]),
     o1 20 (.call (.f 15) [(.t 12), (.t 19)]),
     o1 11 (.mv (.t 20)),
     o1 21 (.ext (.t 11) 0),
     o1 22 (.ext (.t 11) 1),
     o1 2 (.mv (.t 21)),
     o1 3 (.mv (.t 22))])
    (.seq (.reg [o1 23 (.mv (.t 3)),
      o1 24 (.bin .eql (.t 23) (cI 0)),
      o1 25 (.mv (.t 24)),
      oT 26 (.mv (.t 2)) 25,
      oT 27 (.lenL (.t 26)) 25,
      oT 28 (.bin .eql (.t 27) (cI 3)) 25,
      o1 29 (.pick (.t 25) (.t 28) (cB false)),
      o1 30 (.mv (.t 29)),
      oT 31 (.mv (.t 2)) 30,
      oT 32 (.iaddr 3 (.t 31) (cI 0)) 30,
      oT 33 (.faddr 1 (.t 32)) 30,
      oT 34 (.load none (.t 33)) 30,
      oT 35 (.bin .eql (.t 34) (cI 1)) 30,
      o1 36 (.pick (.t 30) (.t 35) (cB false)),
      o1 37 (.mv (.t 36)),
      oT 38 (.mv (.t 2)) 37,
      oT 39 (.iaddr 3 (.t 38) (cI 1)) 37,
      oT 40 (.faddr 1 (.t 39)) 37,
      oT 41 (.load none (.t 40)) 37,
      oT 42 (.bin .eql (.t 41) (cI 2)) 37,
      o1 43 (.pick (.t 37) (.t 42) (cB false)),
      o1 44 (.mv (.t 43)),
      oT 45 (.mv (.t 2)) 44,
      oT 46 (.iaddr 3 (.t 45) (cI 2)) 44,
      oT 47 (.faddr 1 (.t 46)) 44,
      oT 48 (.load none (.t 47)) 44,
      oT 49 (.bin .eql (.t 48) (cI (-1))) 44,
      o1 50 (.pick (.t 44) (.t 49) (cB false)),
      o1 0 (.mv (.t 50))])
     (.ret))))
theorem s14_ok : lookF Try.prog 14 = some (s14, 51, [.tmp 0]) := by kernel_rfl
theorem known_ok : Fn P 14 [] (boolA true) := by
  have c1 := hang_ok exK exH ⟨by simp, by simp [SmS]; decide⟩ ⟨by simp, by simp [SmS]; decide⟩
  have hT := ex_hang
  have f0 : (hangT exK exH).2 = 0 := by rw [hT]
  have f1 : (hangT exK exH).1.length = 3 := by rw [hT]; rfl
  have f2 : (nth (hangT exK exH).1 0).2.1 = 1 := by rw [hT]; rfl
  have f3 : (nth (hangT exK exH).1 1).2.1 = 2 := by rw [hT]; rfl
  have f4 : (nth (hangT exK exH).1 2).2.1 = -1 := by rw [hT]; rfl
  rw [f0] at c1
  generalize (hangT exK exH).1 = x at *
  have g0 : ((x.length : Nat) : Int) = 3 := by omega
  clear hT f0
  have z12 : zcells [Value.slice none 0 0, Value.slice none 0 0, Value.slice none 0 0, Value.int IntKind.i64 0, Value.int IntKind.i64 0, Value.string ⟨#[]⟩] 12 = [.sc (.slice none 0 0), .sc (.slice none 0 0), .sc (.slice none 0 0), intA 0, intA 0, strA ⟨#[]⟩, .sc (.slice none 0 0), .sc (.slice none 0 0), .sc (.slice none 0 0), intA 0, intA 0, strA ⟨#[]⟩] := rfl
  have z9 : zcells [Value.slice none 0 0, Value.int IntKind.i64 0, Value.string ⟨#[]⟩] 9 = [.sc (.slice none 0 0), intA 0, strA ⟨#[]⟩, .sc (.slice none 0 0), intA 0, strA ⟨#[]⟩, .sc (.slice none 0 0), intA 0, strA ⟨#[]⟩] := rfl
  (refine fn_look s14_ok (by simp) (by intro k; simp only [go_sem, Nat.reduceEqDiff, ↓reduceIte, reduceCtorEq, Nat.reduceAdd, Nat.reduceMul, Int.reduceToNat, List.reduceReplicate, Nat.reduceLeDiff, Nat.reduceLT, Int.reduceLT, Int.reduceLE, Int.reduceEq]) fun S hS => cwp_sound _ _ _ _ ?_; simp (disch := omega) only [s14, go_sem, Nat.reduceEqDiff, ↓reduceIte, reduceCtorEq, Nat.reduceAdd, Nat.reduceMul, Int.reduceToNat, List.reduceReplicate, Nat.reduceLeDiff, Nat.reduceLT, Int.reduceLT, Int.reduceLE, Int.reduceEq])
  have hx0 : 0 < x.length := by omega
  have hx1 : 1 < x.length := by omega
  have hx2 : 2 < x.length := by omega
  have h0 := drop_cells hx0
  rw [List.drop_zero] at h0
  have h1 := drop_cells hx1
  have h2 := drop_cells hx2
  repeat' (first | with_reducible refine inw ?_ | simp (disch := omega) only [go_sem, Nat.reduceEqDiff, ↓reduceIte, reduceCtorEq, Nat.reduceAdd, Nat.reduceMul, Int.reduceToNat, List.reduceReplicate, Nat.reduceLeDiff, Nat.reduceLT, Int.reduceLT, Int.reduceLE, Int.reduceEq, z12, z9] | with_reducible refine giv_intro fun _h => ?_ | with_reducible refine alt_intro ?_ fun _h => ?_ | with_reducible refine pickD_nil ?_ | (with_reducible refine brc (fun _h => ?_) fun _h => ?_) <;> first | (exfalso; omega) | simp only [decide_eq_false _h] | simp only [(_h : (_ : Bool) = _)] | simp only [decide_eq_true _h] | skip)
  apply call_give c1
  · simp (disch := omega) only [go_sem, Nat.reduceEqDiff, ↓reduceIte, reduceCtorEq, Nat.reduceAdd, Nat.reduceMul, Int.reduceToNat, List.reduceReplicate, Nat.reduceLeDiff, Nat.reduceLT, Int.reduceLT, Int.reduceLE, Int.reduceEq]
    rfl
  repeat' (first | with_reducible refine inw ?_ | simp (disch := omega) only [go_sem, Nat.reduceEqDiff, ↓reduceIte, reduceCtorEq, Nat.reduceAdd, Nat.reduceMul, Int.reduceToNat, List.reduceReplicate, Nat.reduceLeDiff, Nat.reduceLT, Int.reduceLT, Int.reduceLE, Int.reduceEq, f1, g0, h0, h1, h2, f2, f3, f4] | with_reducible refine giv_intro fun _h => ?_ | with_reducible refine alt_intro ?_ fun _h => ?_ | with_reducible refine pickD_nil ?_ | (with_reducible refine brc (fun _h => ?_) fun _h => ?_) <;> first | (exfalso; omega) | simp only [decide_eq_false _h] | simp only [(_h : (_ : Bool) = _)] | simp only [decide_eq_true _h] | skip)
end Go.Proofs.Ytkedbkdbnmmkhaa.Ev

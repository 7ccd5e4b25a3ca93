/- All words of which harmony makes one: the program. -/
import Derived.Test.YtpfoflhhbkjngaaZFnIhr
import Derived.Test.YtpfoflhhbkjngaaZEvY
import Derived.Test.YtpfoflhhbkjngaaZLaySortV
set_option linter.unusedVariables false
set_option linter.unusedSimpArgs false
namespace Go.Proofs.Ytpfoflhhbkjngaa.Ev
open Go Go.Proofs

/-- What was found so far: read only (b) till the last round, then the call's own. -/
def uhO (S : St) (L : List (List Str)) (b : Bool) : AV := cond b (sl L) (own S 5 L)
def uhR (L : List (List Str)) (b : Bool) : Option Ob := cond b (some (.row 22 1 [])) (rowO 22 L)
theorem uhO_t (S : St) (L : List (List Str)) : uhO S L true = sl L := rfl
theorem uhO_f (S : St) (L : List (List Str)) : uhO S L false = own S 5 L := rfl
theorem uhR_t (L : List (List Str)) : uhR L true = some (.row 22 1 []) := rfl
theorem uhR_f (L : List (List Str)) : uhR L false = rowO 22 L := rfl
def uhB (i n : Nat) (L : List (List Str)) : Bool := decide (i < n) || L.isEmpty
theorem cloneN_ok (l : List Str) (hl : l.length ≤ 1000) : FnS P 79 [sl l] (fun S L r => (l = [] ∧ L = [] ∧ r = nilA) ∨ (L = [some (Ob.row 9 1 (cellsL l))] ∧ r = AV.ref (S.nm 0) l.length 0 l.length)) := by
  (refine fnS_look s79_ok (by simp) fun S hS => cwp_sound _ _ _ _ ?_; simp (maxSteps := 900000) (disch := omega) only [s79, go_sem, Nat.reduceEqDiff, ↓reduceIte, reduceCtorEq, Nat.reduceAdd, Nat.reduceMul, Int.reduceToNat, List.reduceReplicate, Nat.reduceLeDiff, Nat.reduceLT, Int.reduceLT, Int.reduceLE, Int.reduceEq])
  repeat' (first | with_reducible refine inw ?_ | simp (maxSteps := 900000) (disch := omega) only [go_sem, Nat.reduceEqDiff, ↓reduceIte, reduceCtorEq, Nat.reduceAdd, Nat.reduceMul, Int.reduceToNat, List.reduceReplicate, Nat.reduceLeDiff, Nat.reduceLT, Int.reduceLT, Int.reduceLE, Int.reduceEq] | with_reducible refine pickB_f ?_ | with_reducible refine giv_intro fun _h => ?_ | with_reducible refine alt_intro ?_ fun _h => ?_ | with_reducible refine pickD_nil ?_ | (with_reducible refine brc (fun _h => ?_) fun _h => ?_) <;> first | (exfalso; omega) | simp only [decide_eq_false _h] | simp only [(_h : (_ : Bool) = _)] | simp only [decide_eq_true _h] | skip)
  · exact .inr trivial
  · exact .inl (List.eq_nil_of_length_eq_zero _h)
/-- What a sort leaves. -/
theorem sorted_is {l' L : List (List Str)} (hn : L.Nodup) (hp : l'.Perm L) (hs : l'.Pairwise fun x y => ¬compL y x < 0) : l' = insAll compL L := by
  obtain ⟨h1, h2⟩ := insAll_ok cmp_compL L
  exact asc_same cmp_compL (asc_sorted cmp_compL (hp.nodup_iff.2 hn) hs) h1 fun z => hp.mem_iff.trans (h2 z).symm
/-- What is told when there are too many. -/
theorem uh_many {s : List Sound} {l : List Arch} {w : List Str} {i : Nat} (h : 200 < (prodT s l (w.take i) 0 [[]]).length) :
    (if 200 < (prodT s l w 0 [[]]).length then (([] : List (List Str)), (3 : Int)) else (insAll compL (prodT s l w 0 [[]]), 0)) = ([], if reachS s l w 0 = true then 3 else 0) := by
  have h1 := prod_reach s l w 0 [[]]
  have h2 := prod_grows s l (w.drop i) (w.take i)
  rw [List.take_append_drop] at h2
  cases hr : reachS s l w 0
  · rw [hr] at h1
    have h0 := h1.2 (.inr rfl)
    rw [if_neg (by omega), List.eq_nil_of_length_eq_zero h0]; rfl
  · rw [hr] at h1
    have h0 : (prodT s l w 0 [[]]).length ≠ 0 := fun e => by
      rcases h1.1 e with e | e
      · cases e
      · cases e
    rw [if_pos (by omega)]; rfl
theorem set_end {α : Type} {l : List α} {n : Nat} {x y : α} (h : l.length = n) : (l ++ [x]).set n y = l ++ [y] := by
  subst h; simp
theorem cellsL_one (l : List (List Str)) : (cellsL l).length = l.length := by rw [cellsL_len, Nat.mul_one]
theorem cellsL_put (N : List (List Str)) (v : List Str) : cellsL (N ++ [v]) = cellsL N ++ [sl v] := by rw [← cellsL_app]; rfl
theorem prodT_take {s : List Sound} {l : List Arch} {w : List Str} {i c : Nat} {L : List (List Str)} (hi : i < w.length) (hL : prodT s l (w.take i) 0 [[]] = L) (hc : clsT s (w.take i) 0 = c) : (L.flatMap fun u => (chT l (nth w i) c).map fun z => u ++ [z]) = prodT s l (w.take (i + 1)) 0 [[]] := by
  rw [List.take_add_one, nth_get? hi, ← hL, ← hc]; exact (prodT_snoc s l _ _ 0 _).symm
/-- ablaut/harm.Unharmony: 3 parameters, 0 captured -/
def s49 : SC := .seq (.reg [o1 3 (.box 37 1 (.t 0)),
   o1 6 (.mv (.c (.slice none 0 0))),
   o1 7 (.mv (cI 0))])
  (.seq (.seq (.reg [o1 21 (.load (some 1) (.t 3)),
     o1 22 (.call (.f 51) [(.t 21)]),
     o1 23 (.mv (.t 1)),
     o1 24 (.call (.f 95) [(.t 23)]),
     o1 25 (.mv (.t 2)),
     o1 26 (.buildSl 22 1 1 [(.slice none 0 0)] [(0, 1, (.t 25))]),
     o1 27 (.call (.f 53) [(.t 26)]),
     o1 28 (.buildSl 25 1 3 [(.int .i64 0)] [(0, 1, (.t 22)), (1, 1, (.t 24)), (2, 1, (.t 27))]),
     o1 29 (.call (.f 62) [(.t 28)]),
     o1 8 (.mv (.t 29))])
    (.seq (.reg [o1 30 (.mv (.t 8)),
      o1 31 (.bin .neq (.t 30) (cI 0))])
     (.cond (.t 31) (.seq (.reg [o1 32 (.mv (.t 8)),
        o1 6 (.mv (.c (.slice none 0 0))),
        o1 7 (.mv (.t 32))])
       (.ret)) (.skip))))
   (.seq (.seq (.reg [o1 33 (.mv (.t 2)),
      o1 34 (.lenL (.t 33)),
      o1 35 (.bin .gtr (.t 34) (cI 12))])
     (.cond (.t 35) (.seq (.reg [o1 6 (.mv (.c (.slice none 0 0))),
        o1 7 (.mv (cI 3))])
       (.ret)) (.skip)))
    (.seq (.reg [o1 36 (.load (some 1) (.t 3)),
      o1 37 (.call (.f 63) [(.t 36)]),
      o1 38 (.build [(.map none), (.int .i64 0)] [(0, 1, (.t 37))]),
      o1 39 (.box 114 2 (.t 38)),
      o1 9 (.mv (.t 39))])
     (.seq (.reg [o1 40 (.buildSl 22 1 1 [(.slice none 0 0)] [(0, 1, (.c (.slice none 0 0)))]),
       o1 10 (.mv (.t 40))])
      (.seq (.seq (.reg [o1 41 (.mv (.t 2)),
         o1 42 (.lenL (.t 41)),
         o1 43 (.mv (cI 0))])
        (.block 0 (.loop (.seq (.reg [o1 44 (.bin .lss (.t 43) (.t 42))])
           (.seq (.cond (.t 44) (.skip) (.exit 0))
            (.seq (.block 1 (.seq (.reg [o1 45 (.iaddr 1 (.t 41) (.t 43)),
                o1 46 (.load none (.t 45)),
                o1 12 (.mv (.t 46))])
               (.seq (.reg [o1 13 (.mv (.c (.slice none 0 0)))])
                (.seq (.seq (.reg [o1 47 (.mv (.t 12)),
                   o1 48 (.buildSl 9 1 1 [(.string ⟨#[]⟩)] [(0, 1, (.t 47))]),
                   o1 49 (.mv (.t 1)),
                   o1 50 (.call (.f 100) [(.t 49)]),
                   o1 51 (.app 9 1 16 (.t 48) (.t 50)),
                   o1 52 (.lenL (.t 51)),
                   o1 53 (.mv (cI 0))])
                  (.block 2 (.loop (.seq (.reg [o1 54 (.bin .lss (.t 53) (.t 52))])
                     (.seq (.cond (.t 54) (.skip) (.exit 2))
                      (.seq (.block 3 (.seq (.reg [o1 55 (.iaddr 1 (.t 51) (.t 53)),
                          o1 56 (.load none (.t 55)),
                          o1 15 (.mv (.t 56))])
                         (.seq (.reg [o1 57 (.mv (.t 13)),
                           o1 58 (.mv (.t 15)),
                           o1 59 (.call (.f 58) [(.t 57), (.t 58)]),
                           o1 60 (.un .not (.t 59)),
                           o1 61 (.mv (.t 60)),
                           oT 62 (.mv (.t 9)) 61,
                           oT 63 (.mv (.t 1)) 61,
                           oT 64 (.mv (.t 15)) 61,
                           oT 65 (.call (.f 96) [(.t 62), (.t 63), (.t 64)]) 61,
                           oT 66 (.mv (.t 12)) 61,
                           oT 67 (.bin .eql (.t 65) (.t 66)) 61,
                           o1 68 (.pick (.t 61) (.t 67) (cB false))])
                          (.cond (.t 68) (.reg [o1 69 (.mv (.t 13)),
                            o1 70 (.mv (.t 15)),
                            o1 71 (.buildSl 9 1 1 [(.string ⟨#[]⟩)] [(0, 1, (.t 70))]),
                            o1 72 (.app 9 1 16 (.t 69) (.t 71)),
                            o1 13 (.mv (.t 72))]) (.skip)))))
                       (.reg [o1 73 (.bin .add (.t 53) (cI 1)),
                        o1 53 (.mv (.t 73))])))))))
                 (.seq (.reg [o1 74 (.mv (.t 9)),
                   o1 75 (.mv (.t 12)),
                   o1 76 (.call (.f 97) [(.t 74), (.t 75)])])
                  (.seq (.reg [o1 16 (.mv (.c (.slice none 0 0)))])
                   (.seq (.seq (.reg [o1 77 (.mv (.t 10)),
                      o1 78 (.lenL (.t 77)),
                      o1 79 (.mv (cI 0))])
                     (.block 4 (.loop (.seq (.reg [o1 80 (.bin .lss (.t 79) (.t 78))])
                        (.seq (.cond (.t 80) (.skip) (.exit 4))
                         (.seq (.block 5 (.seq (.reg [o1 81 (.iaddr 1 (.t 77) (.t 79)),
                             o1 82 (.load none (.t 81)),
                             o1 18 (.mv (.t 82))])
                            (.seq (.reg [o1 83 (.mv (.t 13)),
                              o1 84 (.lenL (.t 83)),
                              o1 85 (.mv (cI 0))])
                             (.block 6 (.loop (.seq (.reg [o1 86 (.bin .lss (.t 85) (.t 84))])
                                (.seq (.cond (.t 86) (.skip) (.exit 6))
                                 (.seq (.block 7 (.seq (.reg [o1 87 (.iaddr 1 (.t 83) (.t 85)),
                                     o1 88 (.load none (.t 87)),
                                     o1 20 (.mv (.t 88))])
                                    (.reg [o1 89 (.mv (.t 16)),
                                     o1 90 (.mv (.t 18)),
                                     o1 91 (.call (.f 79) [(.t 90)]),
                                     o1 92 (.mv (.t 20)),
                                     o1 93 (.buildSl 9 1 1 [(.string ⟨#[]⟩)] [(0, 1, (.t 92))]),
                                     o1 94 (.app 9 1 16 (.t 91) (.t 93)),
                                     o1 95 (.buildSl 22 1 1 [(.slice none 0 0)] [(0, 1, (.t 94))]),
                                     o1 96 (.app 22 1 24 (.t 89) (.t 95)),
                                     o1 16 (.mv (.t 96))])))
                                  (.reg [o1 97 (.bin .add (.t 85) (cI 1)),
                                   o1 85 (.mv (.t 97))])))))))))
                          (.reg [o1 98 (.bin .add (.t 79) (cI 1)),
                           o1 79 (.mv (.t 98))])))))))
                    (.seq (.reg [o1 99 (.mv (.t 16)),
                      o1 10 (.mv (.t 99))])
                     (.seq (.reg [o1 100 (.mv (.t 10)),
                       o1 101 (.lenL (.t 100)),
                       o1 102 (.bin .gtr (.t 101) (cI 200))])
                      (.cond (.t 102) (.seq (.reg [o1 103 (.mv (.t 10)),
                         o1 104 (.sl 1 (.t 103) none (some (cI 0))),
                         o1 10 (.mv (.t 104))])
                        (.seq (.seq (.reg [o1 105 (.load (some 1) (.t 3)),
                           o1 106 (.mv (.t 1)),
                           o1 107 (.mv (.t 2)),
                           o1 108 (.call (.f 101) [(.t 105), (.t 106), (.t 107)]),
                           o1 109 (.un .not (.t 108))])
                          (.cond (.t 109) (.seq (.reg [o1 6 (.mv (.c (.slice none 0 0))),
                             o1 7 (.mv (cI 0))])
                            (.ret)) (.skip)))
                         (.seq (.reg [o1 6 (.mv (.c (.slice none 0 0))),
                           o1 7 (.mv (cI 3))])
                          (.ret)))) (.skip)))))))))))
             (.reg [o1 110 (.bin .add (.t 43) (cI 1)),
              o1 43 (.mv (.t 110))])))))))
       (.seq (.reg [o1 111 (.mv (.t 10)),
         o1 112 (.call (.f 102) [(.t 111), (.f 90)])])
        (.seq (.reg [o1 113 (.mv (.t 10)),
          o1 6 (.mv (.t 113)),
          o1 7 (.mv (cI 0))])
         (.ret))))))))
theorem s49_ok : lookF Try.prog 49 = some (s49, 114, [.tmp 6, .tmp 7]) := by kernel_rfl
set_option maxHeartbeats 4000000 in
set_option maxRecDepth 10000 in
theorem hUnharmony_ok (s : List Sound) (l : List Arch) (w : List Str) : Fn P 49 [sndA s, sl l, sl w] (.tup [sl (uhT s l w).1, intA (uhT s l w).2]) := by
  have c1 := hValidate_ok s
  have c2 := hArches_ok l
  have c3 := words_ok [w]
  have c4 := first_ok [sndErr s, archErr l, wordsErr [w]]
  rw [show firstE [sndErr s, archErr l, wordsErr [w]] = hrE s l w from rfl] at c4
  by_cases h : hrE s l w ≠ 0
  · rw [uhT, if_pos h]
    (refine fn_look s49_ok (by simp) (by intro k; simp only [go_sem, Nat.reduceEqDiff, ↓reduceIte, reduceCtorEq, Nat.reduceAdd, Nat.reduceMul, Int.reduceToNat, List.reduceReplicate, Nat.reduceLeDiff, Nat.reduceLT, Int.reduceLT, Int.reduceLE, Int.reduceEq]) fun S hS => cwp_sound _ _ _ _ ?_; simp (maxSteps := 900000) (disch := omega) only [s49, go_sem, Nat.reduceEqDiff, ↓reduceIte, reduceCtorEq, Nat.reduceAdd, Nat.reduceMul, Int.reduceToNat, List.reduceReplicate, Nat.reduceLeDiff, Nat.reduceLT, Int.reduceLT, Int.reduceLE, Int.reduceEq])
    repeat' (first | with_reducible refine inw ?_ | simp (maxSteps := 900000) (disch := omega) only [go_sem, Nat.reduceEqDiff, ↓reduceIte, reduceCtorEq, Nat.reduceAdd, Nat.reduceMul, Int.reduceToNat, List.reduceReplicate, Nat.reduceLeDiff, Nat.reduceLT, Int.reduceLT, Int.reduceLE, Int.reduceEq] | (with_reducible apply call (c1)); (focus simp (maxSteps := 900000) (disch := omega) only [go_sem, Nat.reduceEqDiff, ↓reduceIte, reduceCtorEq, Nat.reduceAdd, Nat.reduceMul, Int.reduceToNat, List.reduceReplicate, Nat.reduceLeDiff, Nat.reduceLT, Int.reduceLT, Int.reduceLE, Int.reduceEq] <;> rfl) | (with_reducible apply call (c2)); (focus simp (maxSteps := 900000) (disch := omega) only [go_sem, Nat.reduceEqDiff, ↓reduceIte, reduceCtorEq, Nat.reduceAdd, Nat.reduceMul, Int.reduceToNat, List.reduceReplicate, Nat.reduceLeDiff, Nat.reduceLT, Int.reduceLT, Int.reduceLE, Int.reduceEq] <;> rfl) | (with_reducible apply call_lend (c3)); (focus simp (maxSteps := 900000) (disch := omega) only [go_sem, Nat.reduceEqDiff, ↓reduceIte, reduceCtorEq, Nat.reduceAdd, Nat.reduceMul, Int.reduceToNat, List.reduceReplicate, Nat.reduceLeDiff, Nat.reduceLT, Int.reduceLT, Int.reduceLE, Int.reduceEq] <;> rfl); (focus rfl) | (with_reducible apply call_lend (c4)); (focus simp (maxSteps := 900000) (disch := omega) only [go_sem, Nat.reduceEqDiff, ↓reduceIte, reduceCtorEq, Nat.reduceAdd, Nat.reduceMul, Int.reduceToNat, List.reduceReplicate, Nat.reduceLeDiff, Nat.reduceLT, Int.reduceLT, Int.reduceLE, Int.reduceEq] <;> rfl); (focus rfl) | with_reducible refine pickB_f ?_ | with_reducible refine giv_intro fun _h => ?_ | with_reducible refine alt_intro ?_ fun _h => ?_ | with_reducible refine pickD_nil ?_ | (with_reducible refine brc (fun _h => ?_) fun _h => ?_) <;> first | (exfalso; omega) | simp only [decide_eq_false _h] | simp only [(_h : (_ : Bool) = _)] | simp only [decide_eq_true _h] | skip)
    all_goals rfl
  replace h : hrE s l w = 0 := by omega
  obtain ⟨h1, h2, h3⟩ := hrE_zero h
  obtain ⟨hll, _, _, hb⟩ := archErr_zero h2
  have hw := wordErr_len (wordsErr_one h3)
  have hsh := fun a ha => (arch_short hb a ha).2
  have hdi := arch_distinct hb
  have hcl := fun x => (snd_cls h1 x).2
  rw [h] at c4
  by_cases h12 : 12 < w.length
  · rw [uhT, if_neg (by omega), if_pos h12]
    (refine fn_look s49_ok (by simp) (by intro k; simp only [go_sem, Nat.reduceEqDiff, ↓reduceIte, reduceCtorEq, Nat.reduceAdd, Nat.reduceMul, Int.reduceToNat, List.reduceReplicate, Nat.reduceLeDiff, Nat.reduceLT, Int.reduceLT, Int.reduceLE, Int.reduceEq]) fun S hS => cwp_sound _ _ _ _ ?_; simp (maxSteps := 900000) (disch := omega) only [s49, go_sem, Nat.reduceEqDiff, ↓reduceIte, reduceCtorEq, Nat.reduceAdd, Nat.reduceMul, Int.reduceToNat, List.reduceReplicate, Nat.reduceLeDiff, Nat.reduceLT, Int.reduceLT, Int.reduceLE, Int.reduceEq])
    repeat' (first | with_reducible refine inw ?_ | simp (maxSteps := 900000) (disch := omega) only [go_sem, Nat.reduceEqDiff, ↓reduceIte, reduceCtorEq, Nat.reduceAdd, Nat.reduceMul, Int.reduceToNat, List.reduceReplicate, Nat.reduceLeDiff, Nat.reduceLT, Int.reduceLT, Int.reduceLE, Int.reduceEq] | (with_reducible apply call (c1)); (focus simp (maxSteps := 900000) (disch := omega) only [go_sem, Nat.reduceEqDiff, ↓reduceIte, reduceCtorEq, Nat.reduceAdd, Nat.reduceMul, Int.reduceToNat, List.reduceReplicate, Nat.reduceLeDiff, Nat.reduceLT, Int.reduceLT, Int.reduceLE, Int.reduceEq] <;> rfl) | (with_reducible apply call (c2)); (focus simp (maxSteps := 900000) (disch := omega) only [go_sem, Nat.reduceEqDiff, ↓reduceIte, reduceCtorEq, Nat.reduceAdd, Nat.reduceMul, Int.reduceToNat, List.reduceReplicate, Nat.reduceLeDiff, Nat.reduceLT, Int.reduceLT, Int.reduceLE, Int.reduceEq] <;> rfl) | (with_reducible apply call_lend (c3)); (focus simp (maxSteps := 900000) (disch := omega) only [go_sem, Nat.reduceEqDiff, ↓reduceIte, reduceCtorEq, Nat.reduceAdd, Nat.reduceMul, Int.reduceToNat, List.reduceReplicate, Nat.reduceLeDiff, Nat.reduceLT, Int.reduceLT, Int.reduceLE, Int.reduceEq] <;> rfl); (focus rfl) | (with_reducible apply call_lend (c4)); (focus simp (maxSteps := 900000) (disch := omega) only [go_sem, Nat.reduceEqDiff, ↓reduceIte, reduceCtorEq, Nat.reduceAdd, Nat.reduceMul, Int.reduceToNat, List.reduceReplicate, Nat.reduceLeDiff, Nat.reduceLT, Int.reduceLT, Int.reduceLE, Int.reduceEq] <;> rfl); (focus rfl) | with_reducible refine pickB_f ?_ | with_reducible refine giv_intro fun _h => ?_ | with_reducible refine alt_intro ?_ fun _h => ?_ | with_reducible refine pickD_nil ?_ | (with_reducible refine brc (fun _h => ?_) fun _h => ?_) <;> first | (exfalso; omega) | simp only [decide_eq_false _h] | simp only [(_h : (_ : Bool) = _)] | simp only [decide_eq_true _h] | skip)
    all_goals rfl
  rw [uhT, if_neg (by omega), if_neg h12]
  have c5 := of_ok s
  have c7 := reached_ok s l w h1 hll hsh
  have ev := vowM_of h1
  have ec := clsM_of h1
  have c8 := heads_ok l (by omega)
  generalize ofM s = m at *
  have z1 : zcells [Value.slice none 0 0] 1 = [.sc (.slice none 0 0)] := rfl
  have z2 : zcells [Value.string ⟨#[]⟩] 1 = [strA ⟨#[]⟩] := rfl
  (refine fn_look s49_ok (by simp) (by intro k; simp only [go_sem, Nat.reduceEqDiff, ↓reduceIte, reduceCtorEq, Nat.reduceAdd, Nat.reduceMul, Int.reduceToNat, List.reduceReplicate, Nat.reduceLeDiff, Nat.reduceLT, Int.reduceLT, Int.reduceLE, Int.reduceEq]) fun S hS => cwp_sound _ _ _ _ ?_; simp (maxSteps := 900000) (disch := omega) only [s49, go_sem, Nat.reduceEqDiff, ↓reduceIte, reduceCtorEq, Nat.reduceAdd, Nat.reduceMul, Int.reduceToNat, List.reduceReplicate, Nat.reduceLeDiff, Nat.reduceLT, Int.reduceLT, Int.reduceLE, Int.reduceEq])
  repeat' (first | with_reducible refine inw ?_ | simp (maxSteps := 900000) (disch := omega) only [go_sem, Nat.reduceEqDiff, ↓reduceIte, reduceCtorEq, Nat.reduceAdd, Nat.reduceMul, Int.reduceToNat, List.reduceReplicate, Nat.reduceLeDiff, Nat.reduceLT, Int.reduceLT, Int.reduceLE, Int.reduceEq, z1] | (with_reducible apply call (c1)); (focus simp (maxSteps := 900000) (disch := omega) only [go_sem, Nat.reduceEqDiff, ↓reduceIte, reduceCtorEq, Nat.reduceAdd, Nat.reduceMul, Int.reduceToNat, List.reduceReplicate, Nat.reduceLeDiff, Nat.reduceLT, Int.reduceLT, Int.reduceLE, Int.reduceEq, z1] <;> rfl) | (with_reducible apply call (c2)); (focus simp (maxSteps := 900000) (disch := omega) only [go_sem, Nat.reduceEqDiff, ↓reduceIte, reduceCtorEq, Nat.reduceAdd, Nat.reduceMul, Int.reduceToNat, List.reduceReplicate, Nat.reduceLeDiff, Nat.reduceLT, Int.reduceLT, Int.reduceLE, Int.reduceEq, z1] <;> rfl) | (with_reducible apply call_lend (c3)); (focus simp (maxSteps := 900000) (disch := omega) only [go_sem, Nat.reduceEqDiff, ↓reduceIte, reduceCtorEq, Nat.reduceAdd, Nat.reduceMul, Int.reduceToNat, List.reduceReplicate, Nat.reduceLeDiff, Nat.reduceLT, Int.reduceLT, Int.reduceLE, Int.reduceEq, z1] <;> rfl); (focus rfl) | (with_reducible apply call_lend (c4)); (focus simp (maxSteps := 900000) (disch := omega) only [go_sem, Nat.reduceEqDiff, ↓reduceIte, reduceCtorEq, Nat.reduceAdd, Nat.reduceMul, Int.reduceToNat, List.reduceReplicate, Nat.reduceLeDiff, Nat.reduceLT, Int.reduceLT, Int.reduceLE, Int.reduceEq, z1] <;> rfl); (focus rfl) | (with_reducible apply call (c5)); (focus simp (maxSteps := 900000) (disch := omega) only [go_sem, Nat.reduceEqDiff, ↓reduceIte, reduceCtorEq, Nat.reduceAdd, Nat.reduceMul, Int.reduceToNat, List.reduceReplicate, Nat.reduceLeDiff, Nat.reduceLT, Int.reduceLT, Int.reduceLE, Int.reduceEq, z1] <;> rfl) | with_reducible refine pickB_f ?_ | with_reducible refine giv_intro fun _h => ?_ | with_reducible refine alt_intro ?_ fun _h => ?_ | with_reducible refine pickD_nil ?_ | (with_reducible refine brc (fun _h => ?_) fun _h => ?_) <;> first | (exfalso; omega) | simp only [decide_eq_false _h] | simp only [(_h : (_ : Bool) = _)] | simp only [decide_eq_true _h] | skip)
  refine retype 4 22 ([[]] : List (List Str)) rfl ⟨wk_nilsl, (trivial : wks [] [])⟩ ?_
  simp only [List.set_cons_zero, List.set_cons_succ]
  have q1 : ∀ (cs : List AV), cellsOf (.clo 90 cs) = some [.clo 90 cs] := fun _ => rfl
  have q2 : ∀ (cs : List AV), AV.one (.clo 90 cs) = true := fun _ => rfl
  by_cases hw0 : w.length = 0
  · obtain rfl := List.eq_nil_of_length_eq_zero hw0
    have hp0 : prodT s l [] 0 [[]] = [[]] := rfl
    rw [hp0, if_neg (by simp)]
    (refine loopC hS [1, 2, 3, 9, 41, 42] (by simp only [go_sem, Nat.reduceEqDiff, ↓reduceIte, reduceCtorEq, Nat.reduceAdd, Nat.reduceMul, Int.reduceToNat, List.reduceReplicate, Nat.reduceLeDiff, Nat.reduceLT, Int.reduceLT, Int.reduceLE, Int.reduceEq]; try rfl) (fun (i : Nat) => [(10, own S 4 ([[]] : List (List Str))), (43, intA i)]) (fun (i : Nat) => [none, none, none, none, rowO 22 ([[]] : List (List Str))]) (fun (i : Nat) => i = 0) (fun (i : Nat) => 0) (0) ?_ (by intro s; first | (simp only [List.length_cons, List.length_nil]; done) | rfl | (rcases s with ⟨_, _⟩; rfl) | (rcases s with ⟨_, _, _⟩; rfl) | (rcases s with ⟨_, _, _, _⟩; rfl) | (rcases s with ⟨_, _, _, _, _⟩; rfl)) ?_)
    · simp (maxSteps := 900000) (disch := omega) only [go_sem, Nat.reduceEqDiff, ↓reduceIte, reduceCtorEq, Nat.reduceAdd, Nat.reduceMul, Int.reduceToNat, List.reduceReplicate, Nat.reduceLeDiff, Nat.reduceLT, Int.reduceLT, Int.reduceLE, Int.reduceEq]
    rintro i hi
    replace hi : i = 0 := hi
    subst hi
    repeat' (first | with_reducible refine inw ?_ | simp (maxSteps := 900000) (disch := omega) only [go_sem, Nat.reduceEqDiff, ↓reduceIte, reduceCtorEq, Nat.reduceAdd, Nat.reduceMul, Int.reduceToNat, List.reduceReplicate, Nat.reduceLeDiff, Nat.reduceLT, Int.reduceLT, Int.reduceLE, Int.reduceEq, q1, q2] | with_reducible refine pickB_f ?_ | with_reducible refine giv_intro fun _h => ?_ | with_reducible refine alt_intro ?_ fun _h => ?_ | with_reducible refine pickD_nil ?_ | (with_reducible refine brc (fun _h => ?_) fun _h => ?_) <;> first | (exfalso; omega) | simp only [decide_eq_false _h] | simp only [(_h : (_ : Bool) = _)] | simp only [decide_eq_true _h] | skip)
    refine sort1_call (ρ := sortV_ren) (e := 22) sortV ⟨_, Try.func102, by kernel_rfl, by kernel_rfl⟩ compL (swo_of cmp_compL) (by simp) ([[]] : List (List Str)) (by simp (maxSteps := 900000) (disch := omega) only [go_sem, Nat.reduceEqDiff, ↓reduceIte, reduceCtorEq, Nat.reduceAdd, Nat.reduceMul, Int.reduceToNat, List.reduceReplicate, Nat.reduceLeDiff, Nat.reduceLT, Int.reduceLT, Int.reduceLE, Int.reduceEq]) rfl (fun x hx y hy => sCompare_ok x y (by rw [List.mem_singleton] at hx; subst hx; simp) (by rw [List.mem_singleton] at hy; subst hy; simp)) (fun l' hp hs => ?_)
    have hl' := hp.length_eq
    rw [← sorted_is (by simp) hp hs]
    simp only [List.set_cons_zero, List.set_cons_succ, own, ← hl']
    repeat' (first | with_reducible refine inw ?_ | simp (maxSteps := 900000) (disch := omega) only [go_sem, Nat.reduceEqDiff, ↓reduceIte, reduceCtorEq, Nat.reduceAdd, Nat.reduceMul, Int.reduceToNat, List.reduceReplicate, Nat.reduceLeDiff, Nat.reduceLT, Int.reduceLT, Int.reduceLE, Int.reduceEq, q1, q2] | with_reducible refine pickB_f ?_ | with_reducible refine giv_intro fun _h => ?_ | with_reducible refine alt_intro ?_ fun _h => ?_ | with_reducible refine pickD_nil ?_ | (with_reducible refine brc (fun _h => ?_) fun _h => ?_) <;> first | (exfalso; omega) | simp only [decide_eq_false _h] | simp only [(_h : (_ : Bool) = _)] | simp only [decide_eq_true _h] | skip)
    all_goals skip
  refine freezeF 10 4 22 ([[]] : List (List Str)) (by simp (maxSteps := 900000) (disch := omega) only [go_sem, Nat.reduceEqDiff, ↓reduceIte, reduceCtorEq, Nat.reduceAdd, Nat.reduceMul, Int.reduceToNat, List.reduceReplicate, Nat.reduceLeDiff, Nat.reduceLT, Int.reduceLT, Int.reduceLE, Int.reduceEq]) (by simp (maxSteps := 900000) (disch := omega) only [go_sem, Nat.reduceEqDiff, ↓reduceIte, reduceCtorEq, Nat.reduceAdd, Nat.reduceMul, Int.reduceToNat, List.reduceReplicate, Nat.reduceLeDiff, Nat.reduceLT, Int.reduceLT, Int.reduceLE, Int.reduceEq]) (by simp) ?_
  simp only [List.set_cons_zero, List.set_cons_succ]
  refine virtRow 22 1 ?_
  simp only [List.cons_append, List.nil_append]
  (refine loopV hS [1, 2, 3, 9, 41, 42] (by simp only [go_sem, Nat.reduceEqDiff, ↓reduceIte, reduceCtorEq, Nat.reduceAdd, Nat.reduceMul, Int.reduceToNat, List.reduceReplicate, Nat.reduceLeDiff, Nat.reduceLT, Int.reduceLT, Int.reduceLE, Int.reduceEq]; try rfl) (fun (i : Nat) => [(10, uhO S (prodT s l (w.take i) 0 [[]]) (uhB i w.length (prodT s l (w.take i) 0 [[]]))), (43, intA i)]) (fun (i : Nat) => [some (.row 37 1 [sl s]), none, none, some (.row 114 2 [romA m, intA (clsT s (w.take i) 0)]), none, uhR (prodT s l (w.take i) 0 [[]]) (uhB i w.length (prodT s l (w.take i) 0 [[]]))]) (fun (i : Nat) => i ≤ w.length ∧ (prodT s l (w.take i) 0 [[]]).length ≤ 200) (fun (i : Nat) => w.length - i) (0) ?_ (by intro s; first | (simp only [List.length_cons, List.length_nil]; done) | rfl | (rcases s with ⟨_, _⟩; rfl) | (rcases s with ⟨_, _, _⟩; rfl) | (rcases s with ⟨_, _, _, _⟩; rfl) | (rcases s with ⟨_, _, _, _, _⟩; rfl)) ?_)
  · simp (maxSteps := 900000) (disch := omega) only [go_sem, Nat.reduceEqDiff, ↓reduceIte, reduceCtorEq, Nat.reduceAdd, Nat.reduceMul, Int.reduceToNat, List.reduceReplicate, Nat.reduceLeDiff, Nat.reduceLT, Int.reduceLT, Int.reduceLE, Int.reduceEq]
    have hp0 : prodT s l [] 0 [[]] = [[]] := rfl
    have hb0 : uhB 0 w.length [[]] = true := by rw [uhB, decide_eq_true (by omega), Bool.true_or]
    rw [hp0, hb0, uhO_t, uhR_t]
    simp (maxSteps := 900000) (disch := omega) only [go_sem, Nat.reduceEqDiff, ↓reduceIte, reduceCtorEq, Nat.reduceAdd, Nat.reduceMul, Int.reduceToNat, List.reduceReplicate, Nat.reduceLeDiff, Nat.reduceLT, Int.reduceLT, Int.reduceLE, Int.reduceEq]
    exact ⟨Nat.zero_le _, rfl⟩
  rintro i ⟨hi, hL⟩
  replace hi : i ≤ w.length := hi
  replace hL : (prodT s l (w.take i) 0 [[]]).length ≤ 200 := hL
  by_cases hil : i < w.length
  · have hst : prodT s l (w.take (i + 1)) 0 [[]] = (prodT s l (w.take i) 0 [[]]).flatMap fun u => (chT l (nth w i) (clsT s (w.take i) 0)).map fun z => u ++ [z] := by
      rw [List.take_add_one, nth_get? hil]; exact prodT_snoc s l _ _ 0 _
    have hcs : clsT s (w.take (i + 1)) 0 = aftT s (nth w i) (clsT s (w.take i) 0) := by rw [List.take_add_one, nth_get? hil]; exact clsT_snoc s _ _ 0
    have hcb := clsT_le hcl (w.take i) 0 (by omega)
    have hbt : ∀ L, uhB i w.length L = true := fun L => by rw [uhB, decide_eq_true hil, Bool.true_or]
    simp only [hbt, uhO_t, uhR_t]
    have hlen : ∀ v : List Str, v ∈ prodT s l (w.take i) 0 [[]] → v.length ≤ 60 := fun v hv => by
      have h1 := (mem_prodT s l _ _).1 hv
      have h2 := harmT_len s l v 0
      rw [h1, List.length_take] at h2
      omega
    generalize hLe : prodT s l (w.take i) 0 [[]] = L at *
    generalize hL2 : prodT s l (w.take (i + 1)) 0 [[]] = L2 at *
    generalize hce : clsT s (w.take i) 0 = c at *
    have hX : strA (nth w i) :: cellsL (l.map (·.1)) = cellsL (nth w i :: l.map (·.1)) := rfl
    have hXl : (nth w i :: l.map (·.1)).length = 1 + l.length := by rw [List.length_cons, List.length_map, Nat.add_comm]
    have hch := frA_eq hdi (nth w i) c
    generalize nth w i :: l.map (·.1) = X at *
    repeat' (first | with_reducible refine inw ?_ | simp (maxSteps := 900000) (disch := omega) only [go_sem, Nat.reduceEqDiff, ↓reduceIte, reduceCtorEq, Nat.reduceAdd, Nat.reduceMul, Int.reduceToNat, List.reduceReplicate, Nat.reduceLeDiff, Nat.reduceLT, Int.reduceLT, Int.reduceLE, Int.reduceEq, zS, z1, z2, hX, hXl] | (with_reducible apply call (c8)); (focus simp (maxSteps := 900000) (disch := omega) only [go_sem, Nat.reduceEqDiff, ↓reduceIte, reduceCtorEq, Nat.reduceAdd, Nat.reduceMul, Int.reduceToNat, List.reduceReplicate, Nat.reduceLeDiff, Nat.reduceLT, Int.reduceLT, Int.reduceLE, Int.reduceEq, zS, z1, z2, hX, hXl] <;> rfl) | with_reducible refine pickB_f ?_ | with_reducible refine giv_intro fun _h => ?_ | with_reducible refine alt_intro ?_ fun _h => ?_ | with_reducible refine pickD_nil ?_ | (with_reducible refine brc (fun _h => ?_) fun _h => ?_) <;> first | (exfalso; omega) | simp only [decide_eq_false _h] | simp only [(_h : (_ : Bool) = _)] | simp only [decide_eq_true _h] | skip)
    clear hst
    refine nil_row 13 9 1 (by simp (maxSteps := 900000) (disch := omega) only [go_sem, Nat.reduceEqDiff, ↓reduceIte, reduceCtorEq, Nat.reduceAdd, Nat.reduceMul, Int.reduceToNat, List.reduceReplicate, Nat.reduceLeDiff, Nat.reduceLT, Int.reduceLT, Int.reduceLE, Int.reduceEq]) ?_
    simp only [List.cons_append, List.nil_append, List.length_cons, List.length_nil, Nat.zero_add, Nat.reduceAdd]
    (refine loopC hS [1, 2, 3, 9, 10, 12, 41, 42, 43, 51, 52] (by simp only [go_sem, Nat.reduceEqDiff, ↓reduceIte, reduceCtorEq, Nat.reduceAdd, Nat.reduceMul, Int.reduceToNat, List.reduceReplicate, Nat.reduceLeDiff, Nat.reduceLT, Int.reduceLT, Int.reduceLE, Int.reduceEq]; try rfl) (fun (k : Nat) => [(13, own S 7 (frA l (nth w i) c (X.take k))), (53, intA k)]) (fun (k : Nat) => [some (.row 37 1 [sl s]), none, none, some (.row 114 2 [romA m, intA c]), none, some (.row 22 1 []), rowO 9 X, rowO 9 (frA l (nth w i) c (X.take k))]) (fun (k : Nat) => k ≤ X.length) (fun (k : Nat) => X.length - k) (0) ?_ (by intro s; first | (simp only [List.length_cons, List.length_nil]; done) | rfl | (rcases s with ⟨_, _⟩; rfl) | (rcases s with ⟨_, _, _⟩; rfl) | (rcases s with ⟨_, _, _, _⟩; rfl) | (rcases s with ⟨_, _, _, _, _⟩; rfl)) ?_)
    · simp (maxSteps := 900000) (disch := omega) only [go_sem, Nat.reduceEqDiff, ↓reduceIte, reduceCtorEq, Nat.reduceAdd, Nat.reduceMul, Int.reduceToNat, List.reduceReplicate, Nat.reduceLeDiff, Nat.reduceLT, Int.reduceLT, Int.reduceLE, Int.reduceEq]
      exact ⟨Nat.zero_le _, ⟨rfl, rfl⟩, rfl⟩
    rintro k hk
    replace hk : k ≤ X.length := hk
    have hfl := frA_len l (nth w i) c (X.take k)
    rw [List.length_take] at hfl
    by_cases hkl : k < X.length
    · have hs2 : frA l (nth w i) c (X.take (k + 1)) = frS l (nth w i) c (frA l (nth w i) c (X.take k)) (nth X k) := by rw [List.take_add_one, nth_get? hkl]; exact frA_snoc l _ _ _ _
      generalize hF : frA l (nth w i) c (X.take k) = F at *
      generalize hF2 : frA l (nth w i) c (X.take (k + 1)) = F2 at *
      have d1 := Contains_ok F (nth X k)
      rw [show F.any (fun x => decide (nth X k = x)) = hasT F (nth X k) from rfl] at d1
      have d2 := becomes_ok m l (nth X k) c (by omega) hsh
      unfold frS at hs2
      cases hh : hasT F (nth X k)
      · rw [hh] at d1
        rw [hh] at hs2
        by_cases hwx : wrT l (nth X k) c = nth w i
        · rw [if_pos ⟨rfl, hwx⟩] at hs2
          rw [hwx] at d2
          repeat' (first | with_reducible refine inw ?_ | simp (maxSteps := 900000) (disch := omega) only [go_sem, Nat.reduceEqDiff, ↓reduceIte, reduceCtorEq, Nat.reduceAdd, Nat.reduceMul, Int.reduceToNat, List.reduceReplicate, Nat.reduceLeDiff, Nat.reduceLT, Int.reduceLT, Int.reduceLE, Int.reduceEq, zS, z2] | (with_reducible apply call_lend (d1)); (focus simp (maxSteps := 900000) (disch := omega) only [go_sem, Nat.reduceEqDiff, ↓reduceIte, reduceCtorEq, Nat.reduceAdd, Nat.reduceMul, Int.reduceToNat, List.reduceReplicate, Nat.reduceLeDiff, Nat.reduceLT, Int.reduceLT, Int.reduceLE, Int.reduceEq, zS, z2] <;> rfl); (focus rfl) | (with_reducible apply call_lend (d2)); (focus simp (maxSteps := 900000) (disch := omega) only [go_sem, Nat.reduceEqDiff, ↓reduceIte, reduceCtorEq, Nat.reduceAdd, Nat.reduceMul, Int.reduceToNat, List.reduceReplicate, Nat.reduceLeDiff, Nat.reduceLT, Int.reduceLT, Int.reduceLE, Int.reduceEq, zS, z2] <;> rfl); (focus rfl) | with_reducible refine pickB_f ?_ | with_reducible refine giv_intro fun _h => ?_ | with_reducible refine alt_intro ?_ fun _h => ?_ | with_reducible refine pickD_nil ?_ | (with_reducible refine brc (fun _h => ?_) fun _h => ?_) <;> first | (exfalso; omega) | simp only [decide_eq_false _h] | simp only [(_h : (_ : Bool) = _)] | simp only [decide_eq_true _h] | skip)
          have hl2 : F2.length = F.length + 1 := by rw [hs2, List.length_append, List.length_singleton]
          refine ⟨k + 1, ⟨by omega, by omega⟩, ⟨by rw [hF2, hl2]; exact ⟨rfl, rfl⟩, by omega⟩, ?_⟩
          rw [hF2, hs2]
        · rw [if_neg (fun q => hwx q.2)] at hs2
          repeat' (first | with_reducible refine inw ?_ | simp (maxSteps := 900000) (disch := omega) only [go_sem, Nat.reduceEqDiff, ↓reduceIte, reduceCtorEq, Nat.reduceAdd, Nat.reduceMul, Int.reduceToNat, List.reduceReplicate, Nat.reduceLeDiff, Nat.reduceLT, Int.reduceLT, Int.reduceLE, Int.reduceEq, zS, z2] | (with_reducible apply call_lend (d1)); (focus simp (maxSteps := 900000) (disch := omega) only [go_sem, Nat.reduceEqDiff, ↓reduceIte, reduceCtorEq, Nat.reduceAdd, Nat.reduceMul, Int.reduceToNat, List.reduceReplicate, Nat.reduceLeDiff, Nat.reduceLT, Int.reduceLT, Int.reduceLE, Int.reduceEq, zS, z2] <;> rfl); (focus rfl) | (with_reducible apply call_lend (d2)); (focus simp (maxSteps := 900000) (disch := omega) only [go_sem, Nat.reduceEqDiff, ↓reduceIte, reduceCtorEq, Nat.reduceAdd, Nat.reduceMul, Int.reduceToNat, List.reduceReplicate, Nat.reduceLeDiff, Nat.reduceLT, Int.reduceLT, Int.reduceLE, Int.reduceEq, zS, z2] <;> rfl); (focus rfl) | with_reducible refine pickB_f ?_ | with_reducible refine giv_intro fun _h => ?_ | with_reducible refine alt_intro ?_ fun _h => ?_ | with_reducible refine pickD_nil ?_ | (with_reducible refine brc (fun _h => ?_) fun _h => ?_) <;> first | (exfalso; omega) | simp only [decide_eq_false _h] | simp only [(_h : (_ : Bool) = _)] | simp only [decide_eq_true _h] | skip)
          · exact absurd _h hwx
          refine ⟨k + 1, ⟨by omega, by omega⟩, ⟨by rw [hF2, hs2]; exact ⟨rfl, rfl⟩, by omega⟩, ?_⟩
          rw [hF2, hs2]
      · rw [hh] at d1
        rw [hh, if_neg (by simp)] at hs2
        repeat' (first | with_reducible refine inw ?_ | simp (maxSteps := 900000) (disch := omega) only [go_sem, Nat.reduceEqDiff, ↓reduceIte, reduceCtorEq, Nat.reduceAdd, Nat.reduceMul, Int.reduceToNat, List.reduceReplicate, Nat.reduceLeDiff, Nat.reduceLT, Int.reduceLT, Int.reduceLE, Int.reduceEq, zS, z2] | (with_reducible apply call_lend (d1)); (focus simp (maxSteps := 900000) (disch := omega) only [go_sem, Nat.reduceEqDiff, ↓reduceIte, reduceCtorEq, Nat.reduceAdd, Nat.reduceMul, Int.reduceToNat, List.reduceReplicate, Nat.reduceLeDiff, Nat.reduceLT, Int.reduceLT, Int.reduceLE, Int.reduceEq, zS, z2] <;> rfl); (focus rfl) | (with_reducible apply call_lend (d2)); (focus simp (maxSteps := 900000) (disch := omega) only [go_sem, Nat.reduceEqDiff, ↓reduceIte, reduceCtorEq, Nat.reduceAdd, Nat.reduceMul, Int.reduceToNat, List.reduceReplicate, Nat.reduceLeDiff, Nat.reduceLT, Int.reduceLT, Int.reduceLE, Int.reduceEq, zS, z2] <;> rfl); (focus rfl) | with_reducible refine pickB_f ?_ | with_reducible refine giv_intro fun _h => ?_ | with_reducible refine alt_intro ?_ fun _h => ?_ | with_reducible refine pickD_nil ?_ | (with_reducible refine brc (fun _h => ?_) fun _h => ?_) <;> first | (exfalso; omega) | simp only [decide_eq_false _h] | simp only [(_h : (_ : Bool) = _)] | simp only [decide_eq_true _h] | skip)
        refine ⟨k + 1, ⟨by omega, by omega⟩, ⟨by rw [hF2, hs2]; exact ⟨rfl, rfl⟩, by omega⟩, ?_⟩
        rw [hF2, hs2]
    · obtain rfl : k = X.length := by omega
      rw [List.take_length, hch]
      have hC1 : (chT l (nth w i) c).length ≤ 25 := by
        rw [← hch]; rw [List.take_length] at hfl; omega
      have hst : L2 = nxT L (chT l (nth w i) c) L.length := by rw [← hL2, nxT_all, prodT_take hil hLe hce]
      clear hfl hch hX
      generalize chT l (nth w i) c = C at *
      have ey : vowR s (nth w i) = ((getM m (nth w i)).getD (⟨#[]⟩, 0, false, 0)).2.2.1 := by rw [← ev]; rfl
      have ez : clsR s (nth w i) = ((getM m (nth w i)).getD (⟨#[]⟩, 0, false, 0)).2.2.2 := by rw [← ec]; rfl
      have hyc := (snd_cls h1 (nth w i)).1
      have hA : vowR s (nth w i) = true ∧ 0 < clsR s (nth w i) → aftT s (nth w i) c = (clsR s (nth w i)).toNat := fun h => by rw [aftT, if_pos h]
      have hB : ¬(vowR s (nth w i) = true ∧ 0 < clsR s (nth w i)) → aftT s (nth w i) c = c := fun h => by rw [aftT, if_neg h]
      rw [ey, ez] at hA hB
      rw [ez] at hyc
      clear ey ez
      repeat' (first | with_reducible refine inw ?_ | simp (maxSteps := 900000) (disch := omega) only [go_sem, Nat.reduceEqDiff, ↓reduceIte, reduceCtorEq, Nat.reduceAdd, Nat.reduceMul, Int.reduceToNat, List.reduceReplicate, Nat.reduceLeDiff, Nat.reduceLT, Int.reduceLT, Int.reduceLE, Int.reduceEq, zS] | (with_reducible refine callI s97_ok (by simp) hS (cwp_sound _ _ _ _ ?_)); simp (maxSteps := 900000) (disch := omega) only [s97, go_sem, Nat.reduceEqDiff, ↓reduceIte, reduceCtorEq, Nat.reduceAdd, Nat.reduceMul, Int.reduceToNat, List.reduceReplicate, Nat.reduceLeDiff, Nat.reduceLT, Int.reduceLT, Int.reduceLE, Int.reduceEq, zS] | with_reducible refine pickB_f ?_ | with_reducible refine giv_intro fun _h => ?_ | with_reducible refine alt_intro ?_ fun _h => ?_ | with_reducible refine pickD_nil ?_ | (with_reducible refine brc (fun _h => ?_) fun _h => ?_) <;> first | (exfalso; omega) | simp only [decide_eq_false _h] | simp only [(_h : (_ : Bool) = _)] | simp only [decide_eq_true _h] | skip)
      all_goals refine nil_row 16 22 1 (by simp (maxSteps := 900000) (disch := omega) only [go_sem, Nat.reduceEqDiff, ↓reduceIte, reduceCtorEq, Nat.reduceAdd, Nat.reduceMul, Int.reduceToNat, List.reduceReplicate, Nat.reduceLeDiff, Nat.reduceLT, Int.reduceLT, Int.reduceLE, Int.reduceEq]) ?_
      all_goals simp only [List.cons_append, List.nil_append, List.length_cons, List.length_nil, Nat.zero_add, Nat.reduceAdd]
      all_goals
        (refine loopC hS [1, 2, 3, 9, 13, 41, 42, 43, 77, 78] (by simp only [go_sem, Nat.reduceEqDiff, ↓reduceIte, reduceCtorEq, Nat.reduceAdd, Nat.reduceMul, Int.reduceToNat, List.reduceReplicate, Nat.reduceLeDiff, Nat.reduceLT, Int.reduceLT, Int.reduceLE, Int.reduceEq]; try rfl) (fun (j : Nat) => [(16, own S 9 (nxT L C j)), (79, intA j)]) (fun (j : Nat) => [some (.row 37 1 [sl s]), none, none, some (.row 114 2 [romA m, intA (aftT s (nth w i) c)]), none, some (.row 22 1 []), none, rowO 9 C, none, rowO 22 (nxT L C j)]) (fun (j : Nat) => j ≤ L.length) (fun (j : Nat) => L.length - j) (0) ?_ (by intro s; first | (simp only [List.length_cons, List.length_nil]; done) | rfl | (rcases s with ⟨_, _⟩; rfl) | (rcases s with ⟨_, _, _⟩; rfl) | (rcases s with ⟨_, _, _, _⟩; rfl) | (rcases s with ⟨_, _, _, _, _⟩; rfl)) ?_)
        · simp (maxSteps := 900000) (disch := omega) only [go_sem, Nat.reduceEqDiff, ↓reduceIte, reduceCtorEq, Nat.reduceAdd, Nat.reduceMul, Int.reduceToNat, List.reduceReplicate, Nat.reduceLeDiff, Nat.reduceLT, Int.reduceLT, Int.reduceLE, Int.reduceEq]
          generalize (getM m (nth w i)).getD (⟨#[]⟩, 0, false, 0) = r at *
          refine ⟨Nat.zero_le _, ⟨⟨rfl, rfl⟩, ?_, rfl⟩⟩
          first
            | (rw [hA ⟨by assumption, by assumption⟩, Int.toNat_of_nonneg hyc]; done)
            | (rw [hB fun h => by rcases h with ⟨q1, q2⟩; first | omega | (rw [q1] at _h; cases _h)]; done)
        clear hA hB hyc
        rintro j hj
        replace hj : j ≤ L.length := hj
        have hnl := nxT_len L C j hj
        have hjm : j * C.length ≤ 200 * 25 := Nat.mul_le_mul (by omega) hC1
        by_cases hjl : j < L.length
        · have hul := hlen _ (nth_mem hjl)
          have hne := nxK_end L C j hjl
          have hn0 := nxK_zero L C j
          repeat' (first | with_reducible refine inw ?_ | simp (maxSteps := 900000) (disch := omega) only [go_sem, Nat.reduceEqDiff, ↓reduceIte, reduceCtorEq, Nat.reduceAdd, Nat.reduceMul, Int.reduceToNat, List.reduceReplicate, Nat.reduceLeDiff, Nat.reduceLT, Int.reduceLT, Int.reduceLE, Int.reduceEq, zS] | with_reducible refine pickB_f ?_ | with_reducible refine giv_intro fun _h => ?_ | with_reducible refine alt_intro ?_ fun _h => ?_ | with_reducible refine pickD_nil ?_ | (with_reducible refine brc (fun _h => ?_) fun _h => ?_) <;> first | (exfalso; omega) | simp only [decide_eq_false _h] | simp only [(_h : (_ : Bool) = _)] | simp only [decide_eq_true _h] | skip)
          (refine loopV hS [1, 2, 3, 9, 13, 18, 41, 42, 43, 77, 78, 79, 83, 84] (by simp only [go_sem, Nat.reduceEqDiff, ↓reduceIte, reduceCtorEq, Nat.reduceAdd, Nat.reduceMul, Int.reduceToNat, List.reduceReplicate, Nat.reduceLeDiff, Nat.reduceLT, Int.reduceLT, Int.reduceLE, Int.reduceEq]; try rfl) (fun (k : Nat) => [(16, own S 9 (nxK L C j k)), (85, intA k)]) (fun (k : Nat) => [some (.row 37 1 [sl s]), none, none, some (.row 114 2 [romA m, intA (aftT s (nth w i) c)]), none, some (.row 22 1 []), none, rowO 9 C, none, rowO 22 (nxK L C j k)]) (fun (k : Nat) => k ≤ C.length) (fun (k : Nat) => C.length - k) (0) ?_ (by intro s; first | (simp only [List.length_cons, List.length_nil]; done) | rfl | (rcases s with ⟨_, _⟩; rfl) | (rcases s with ⟨_, _, _⟩; rfl) | (rcases s with ⟨_, _, _, _⟩; rfl) | (rcases s with ⟨_, _, _, _, _⟩; rfl)) ?_)
          · simp (maxSteps := 900000) (disch := omega) only [go_sem, Nat.reduceEqDiff, ↓reduceIte, reduceCtorEq, Nat.reduceAdd, Nat.reduceMul, Int.reduceToNat, List.reduceReplicate, Nat.reduceLeDiff, Nat.reduceLT, Int.reduceLT, Int.reduceLE, Int.reduceEq]
            rw [hn0]
            exact ⟨Nat.zero_le _, ⟨rfl, rfl⟩, rfl⟩
          rintro k hk
          replace hk : k ≤ C.length := hk
          have hkn := nxK_len L C j k hj
          by_cases hkl : k < C.length
          · have hks := nxK_succ L C j k hkl
            generalize nxK L C j k = N at *
            generalize hN2 : nxK L C j (k + 1) = N2 at *
            generalize nth L j = u at *
            have d1 := cloneN_ok u (by omega)
            repeat' (first | with_reducible refine inw ?_ | simp (maxSteps := 900000) (disch := omega) only [go_sem, Nat.reduceEqDiff, ↓reduceIte, reduceCtorEq, Nat.reduceAdd, Nat.reduceMul, Int.reduceToNat, List.reduceReplicate, Nat.reduceLeDiff, Nat.reduceLT, Int.reduceLT, Int.reduceLE, Int.reduceEq, zS, z1, z2] | with_reducible refine pickB_f ?_ | with_reducible refine giv_intro fun _h => ?_ | with_reducible refine alt_intro ?_ fun _h => ?_ | with_reducible refine pickD_nil ?_ | (with_reducible refine brc (fun _h => ?_) fun _h => ?_) <;> first | (exfalso; omega) | simp only [decide_eq_false _h] | simp only [(_h : (_ : Bool) = _)] | simp only [decide_eq_true _h] | skip)
            refine callN d1 rfl ?_
            rintro L' r (⟨hu0, rfl, rfl⟩ | ⟨rfl, hr⟩)
            · repeat' (first | with_reducible refine inw ?_ | simp (maxSteps := 900000) (disch := omega) only [go_sem, Nat.reduceEqDiff, ↓reduceIte, reduceCtorEq, Nat.reduceAdd, Nat.reduceMul, Int.reduceToNat, List.reduceReplicate, Nat.reduceLeDiff, Nat.reduceLT, Int.reduceLT, Int.reduceLE, Int.reduceEq, zS, z1, z2] | with_reducible refine pickB_f ?_ | with_reducible refine giv_intro fun _h => ?_ | with_reducible refine alt_intro ?_ fun _h => ?_ | with_reducible refine pickD_nil ?_ | (with_reducible refine brc (fun _h => ?_) fun _h => ?_) <;> first | (exfalso; omega) | simp only [decide_eq_false _h] | simp only [(_h : (_ : Bool) = _)] | simp only [decide_eq_true _h] | skip)
              have n9 : ¬ S.n + 9 < S.n := by omega
              have n11 : ¬ S.n + 11 < S.n := by omega
              refine viewed_of (View.freezeCell (a := S.nm 9) (l := S.nm 11) (q := N.length) (e := 22) (k := 1) (e2 := 9) (k2 := 1) (tot := 1) (m := 1) (cs := cellsL N ++ [.ref (S.nm 11) 1 0 1]) (cs2 := [strA (nth C k)]) (by simp [St.stk, St.nm, n9]) (by rw [List.getElem?_append_right (by rw [cellsL_len]; omega), cellsL_len, Nat.mul_one, Nat.sub_self]; rfl) (by simp [St.stk, St.nm, n11]) (by rfl) (by omega) (by simp [St.nm])) (viewed_done ?_)
              simp (maxSteps := 900000) (disch := omega) only [go_sem, Nat.reduceEqDiff, ↓reduceIte, reduceCtorEq, Nat.reduceAdd, Nat.reduceMul, Int.reduceToNat, List.reduceReplicate, Nat.reduceLeDiff, Nat.reduceLT, Int.reduceLT, Int.reduceLE, Int.reduceEq]
              have hl2 : N2.length = N.length + 1 := by rw [hks, List.length_append, List.length_singleton]
              refine ⟨k + 1, ⟨by omega, by omega⟩, ⟨by rw [hN2, hl2]; exact ⟨rfl, rfl⟩, by omega⟩, ?_⟩
              rw [hN2, hks, hu0, set_end (cellsL_one N), ← cellsL_app]; rfl
            · replace hr : r = AV.ref (S.nm 10) u.length 0 u.length := hr
              subst hr
              repeat' (first | with_reducible refine inw ?_ | simp (maxSteps := 900000) (disch := omega) only [go_sem, Nat.reduceEqDiff, ↓reduceIte, reduceCtorEq, Nat.reduceAdd, Nat.reduceMul, Int.reduceToNat, List.reduceReplicate, Nat.reduceLeDiff, Nat.reduceLT, Int.reduceLT, Int.reduceLE, Int.reduceEq, zS, z1, z2] | with_reducible refine pickB_f ?_ | with_reducible refine giv_intro fun _h => ?_ | with_reducible refine alt_intro ?_ fun _h => ?_ | with_reducible refine pickD_nil ?_ | (with_reducible refine brc (fun _h => ?_) fun _h => ?_) <;> first | (exfalso; omega) | simp only [decide_eq_false _h] | simp only [(_h : (_ : Bool) = _)] | simp only [decide_eq_true _h] | skip)
              have n9 : ¬ S.n + 9 < S.n := by omega
              have n10 : ¬ S.n + 10 < S.n := by omega
              refine viewed_of (View.freezeCell (a := S.nm 9) (l := S.nm 10) (q := N.length) (e := 22) (k := 1) (e2 := 9) (k2 := 1) (tot := u.length + 1) (m := u.length + 1) (cs := cellsL N ++ [.ref (S.nm 10) (u.length + 1) 0 (u.length + 1)]) (cs2 := cellsL (u ++ [nth C k])) (by simp [St.stk, St.nm, n9]) (by rw [List.getElem?_append_right (by rw [cellsL_len]; omega), cellsL_len, Nat.mul_one, Nat.sub_self]; rfl) (by simp [St.stk, St.nm, n10]) (by rw [cellsL_len, List.length_append, Nat.mul_one]; rfl) (by omega) (by simp [St.nm])) (viewed_done ?_)
              simp (maxSteps := 900000) (disch := omega) only [go_sem, Nat.reduceEqDiff, ↓reduceIte, reduceCtorEq, Nat.reduceAdd, Nat.reduceMul, Int.reduceToNat, List.reduceReplicate, Nat.reduceLeDiff, Nat.reduceLT, Int.reduceLT, Int.reduceLE, Int.reduceEq]
              have hl2 : N2.length = N.length + 1 := by rw [hks, List.length_append, List.length_singleton]
              refine ⟨k + 1, ⟨by omega, by omega⟩, ⟨by rw [hN2, hl2]; exact ⟨rfl, rfl⟩, by omega⟩, ?_⟩
              have hu1 : (u ++ [nth C k]).length = u.length + 1 := by rw [List.length_append, List.length_singleton]
              rw [hN2, hks, set_end (cellsL_one N), List.take_of_length_le (by rw [hu1]; exact Nat.le_refl _), cellsL_put, sl, hu1]
          · obtain rfl : k = C.length := by omega
            rw [hne]
            repeat' (first | with_reducible refine inw ?_ | simp (maxSteps := 900000) (disch := omega) only [go_sem, Nat.reduceEqDiff, ↓reduceIte, reduceCtorEq, Nat.reduceAdd, Nat.reduceMul, Int.reduceToNat, List.reduceReplicate, Nat.reduceLeDiff, Nat.reduceLT, Int.reduceLT, Int.reduceLE, Int.reduceEq] | with_reducible refine pickB_f ?_ | with_reducible refine giv_intro fun _h => ?_ | with_reducible refine alt_intro ?_ fun _h => ?_ | with_reducible refine pickD_nil ?_ | (with_reducible refine brc (fun _h => ?_) fun _h => ?_) <;> first | (exfalso; omega) | simp only [decide_eq_false _h] | simp only [(_h : (_ : Bool) = _)] | simp only [decide_eq_true _h] | skip)
            exact ⟨j + 1, ⟨by omega, by omega⟩, ⟨⟨rfl, rfl⟩, by omega⟩, rfl⟩
        · obtain rfl : j = L.length := by omega
          rw [← hst]
          by_cases h200 : 200 < L2.length
          · have hmany := uh_many (s := s) (l := l) (w := w) (i := i + 1) (by rw [hL2]; exact h200)
            rw [hmany]
            clear hmany
            cases hre : reachS s l w 0
            · rw [hre] at c7
              repeat' (first | with_reducible refine inw ?_ | simp (maxSteps := 900000) (disch := omega) only [go_sem, Nat.reduceEqDiff, ↓reduceIte, reduceCtorEq, Nat.reduceAdd, Nat.reduceMul, Int.reduceToNat, List.reduceReplicate, Nat.reduceLeDiff, Nat.reduceLT, Int.reduceLT, Int.reduceLE, Int.reduceEq, zS] | (with_reducible apply call (c7)); (focus simp (maxSteps := 900000) (disch := omega) only [go_sem, Nat.reduceEqDiff, ↓reduceIte, reduceCtorEq, Nat.reduceAdd, Nat.reduceMul, Int.reduceToNat, List.reduceReplicate, Nat.reduceLeDiff, Nat.reduceLT, Int.reduceLT, Int.reduceLE, Int.reduceEq, zS] <;> rfl) | with_reducible refine pickB_f ?_ | with_reducible refine giv_intro fun _h => ?_ | with_reducible refine alt_intro ?_ fun _h => ?_ | with_reducible refine pickD_nil ?_ | (with_reducible refine brc (fun _h => ?_) fun _h => ?_) <;> first | (exfalso; omega) | simp only [decide_eq_false _h] | simp only [(_h : (_ : Bool) = _)] | simp only [decide_eq_true _h] | skip)
              all_goals rfl
            · rw [hre] at c7
              repeat' (first | with_reducible refine inw ?_ | simp (maxSteps := 900000) (disch := omega) only [go_sem, Nat.reduceEqDiff, ↓reduceIte, reduceCtorEq, Nat.reduceAdd, Nat.reduceMul, Int.reduceToNat, List.reduceReplicate, Nat.reduceLeDiff, Nat.reduceLT, Int.reduceLT, Int.reduceLE, Int.reduceEq, zS] | (with_reducible apply call (c7)); (focus simp (maxSteps := 900000) (disch := omega) only [go_sem, Nat.reduceEqDiff, ↓reduceIte, reduceCtorEq, Nat.reduceAdd, Nat.reduceMul, Int.reduceToNat, List.reduceReplicate, Nat.reduceLeDiff, Nat.reduceLT, Int.reduceLT, Int.reduceLE, Int.reduceEq, zS] <;> rfl) | with_reducible refine pickB_f ?_ | with_reducible refine giv_intro fun _h => ?_ | with_reducible refine alt_intro ?_ fun _h => ?_ | with_reducible refine pickD_nil ?_ | (with_reducible refine brc (fun _h => ?_) fun _h => ?_) <;> first | (exfalso; omega) | simp only [decide_eq_false _h] | simp only [(_h : (_ : Bool) = _)] | simp only [decide_eq_true _h] | skip)
              all_goals rfl
          · repeat' (first | with_reducible refine inw ?_ | simp (maxSteps := 900000) (disch := omega) only [go_sem, Nat.reduceEqDiff, ↓reduceIte, reduceCtorEq, Nat.reduceAdd, Nat.reduceMul, Int.reduceToNat, List.reduceReplicate, Nat.reduceLeDiff, Nat.reduceLT, Int.reduceLT, Int.reduceLE, Int.reduceEq, zS] | with_reducible refine pickB_f ?_ | with_reducible refine giv_intro fun _h => ?_ | with_reducible refine alt_intro ?_ fun _h => ?_ | with_reducible refine pickD_nil ?_ | (with_reducible refine brc (fun _h => ?_) fun _h => ?_) <;> first | (exfalso; omega) | simp only [decide_eq_false _h] | simp only [(_h : (_ : Bool) = _)] | simp only [decide_eq_true _h] | skip)
            have hn1 : i + 1 ≤ w.length := hil
            cases hb1 : uhB (i + 1) w.length L2
            · have hb2 := hb1
              simp only [uhB, Bool.or_eq_false_iff, decide_eq_false_iff_not] at hb2
              have hpos : 0 < L2.length := by
                rcases L2 with _ | ⟨x, L2⟩
                · exact absurd hb2.2 (by simp)
                · rw [List.length_cons]; omega
              have n5 : ¬ S.n + 5 < S.n := by omega
              have n9 : ¬ S.n + 9 < S.n := by omega
              refine viewed_of (View.move (i := 10) (a := S.nm 5) (a' := S.nm 9) (e := 22) (k := 1) (tot := L2.length) (m := L2.length) (cs := []) (cs' := cellsL L2) (by simp (maxSteps := 900000) (disch := omega) only [go_sem, Nat.reduceEqDiff, ↓reduceIte, reduceCtorEq, Nat.reduceAdd, Nat.reduceMul, Int.reduceToNat, List.reduceReplicate, Nat.reduceLeDiff, Nat.reduceLT, Int.reduceLT, Int.reduceLE, Int.reduceEq]; rw [own, Nat.mul_one]) (by simp [St.stk, St.nm, n5]) (by simp [St.stk, St.nm, n9]) (by rw [cellsL_len]; simp; omega) (by simp [St.nm])) (viewed_done ?_)
              refine ⟨i + 1, ⟨by omega, by omega, by rw [hL2]; omega⟩, ?_⟩
              rw [hL2, hb1, uhO_f, uhR_f, hcs]
              simp (maxSteps := 900000) (disch := omega) only [go_sem, Nat.reduceEqDiff, ↓reduceIte, reduceCtorEq, Nat.reduceAdd, Nat.reduceMul, Int.reduceToNat, List.reduceReplicate, Nat.reduceLeDiff, Nat.reduceLT, Int.reduceLT, Int.reduceLE, Int.reduceEq]
              rfl
            · refine viewed_of (View.freezeR 10 9 22 L2 (by simp (maxSteps := 900000) (disch := omega) only [go_sem, Nat.reduceEqDiff, ↓reduceIte, reduceCtorEq, Nat.reduceAdd, Nat.reduceMul, Int.reduceToNat, List.reduceReplicate, Nat.reduceLeDiff, Nat.reduceLT, Int.reduceLT, Int.reduceLE, Int.reduceEq]) (by simp (maxSteps := 900000) (disch := omega) only [go_sem, Nat.reduceEqDiff, ↓reduceIte, reduceCtorEq, Nat.reduceAdd, Nat.reduceMul, Int.reduceToNat, List.reduceReplicate, Nat.reduceLeDiff, Nat.reduceLT, Int.reduceLT, Int.reduceLE, Int.reduceEq]) (by simp)) (viewed_done ?_)
              refine ⟨i + 1, ⟨by omega, by omega, by rw [hL2]; omega⟩, ?_⟩
              rw [hL2, hb1, uhO_t, uhR_t, hcs]
              simp only [List.set_cons_succ, List.set_cons_zero]
              simp (maxSteps := 900000) (disch := omega) only [go_sem, Nat.reduceEqDiff, ↓reduceIte, reduceCtorEq, Nat.reduceAdd, Nat.reduceMul, Int.reduceToNat, List.reduceReplicate, Nat.reduceLeDiff, Nat.reduceLT, Int.reduceLT, Int.reduceLE, Int.reduceEq]
              rfl
  · have hie : i = w.length := by omega
    subst hie
    rw [List.take_length] at hL ⊢
    rw [if_neg (by omega)]
    have hnd := nodup_prodT hdi s w
    have hlen : ∀ v : List Str, v ∈ prodT s l w 0 [[]] → v.length ≤ 60 := fun v hv => by
      have h1 := (mem_prodT s l _ _).1 hv
      have h2 := harmT_len s l v 0
      rw [h1] at h2
      omega
    generalize prodT s l w 0 [[]] = L at *
    cases hb1 : uhB w.length w.length L
    · rw [uhO_f, uhR_f]
      repeat' (first | with_reducible refine inw ?_ | simp (maxSteps := 900000) (disch := omega) only [go_sem, Nat.reduceEqDiff, ↓reduceIte, reduceCtorEq, Nat.reduceAdd, Nat.reduceMul, Int.reduceToNat, List.reduceReplicate, Nat.reduceLeDiff, Nat.reduceLT, Int.reduceLT, Int.reduceLE, Int.reduceEq, q1, q2] | with_reducible refine pickB_f ?_ | with_reducible refine giv_intro fun _h => ?_ | with_reducible refine alt_intro ?_ fun _h => ?_ | with_reducible refine pickD_nil ?_ | (with_reducible refine brc (fun _h => ?_) fun _h => ?_) <;> first | (exfalso; omega) | simp only [decide_eq_false _h] | simp only [(_h : (_ : Bool) = _)] | simp only [decide_eq_true _h] | skip)
      refine sort1_call (ρ := sortV_ren) (e := 22) sortV ⟨_, Try.func102, by kernel_rfl, by kernel_rfl⟩ compL (swo_of cmp_compL) (by simp) L (by simp (maxSteps := 900000) (disch := omega) only [go_sem, Nat.reduceEqDiff, ↓reduceIte, reduceCtorEq, Nat.reduceAdd, Nat.reduceMul, Int.reduceToNat, List.reduceReplicate, Nat.reduceLeDiff, Nat.reduceLT, Int.reduceLT, Int.reduceLE, Int.reduceEq]) (by first | rfl | (rw [Nat.mul_one])) (fun x hx y hy => sCompare_ok x y (by have := hlen x hx; omega) (by have := hlen y hy; omega)) (fun l' hp hs => ?_)
      have hl' := hp.length_eq
      rw [← sorted_is hnd hp hs]
      simp only [List.set_cons_zero, List.set_cons_succ, own, ← hl']
      repeat' (first | with_reducible refine inw ?_ | simp (maxSteps := 900000) (disch := omega) only [go_sem, Nat.reduceEqDiff, ↓reduceIte, reduceCtorEq, Nat.reduceAdd, Nat.reduceMul, Int.reduceToNat, List.reduceReplicate, Nat.reduceLeDiff, Nat.reduceLT, Int.reduceLT, Int.reduceLE, Int.reduceEq, q1, q2] | with_reducible refine pickB_f ?_ | with_reducible refine giv_intro fun _h => ?_ | with_reducible refine alt_intro ?_ fun _h => ?_ | with_reducible refine pickD_nil ?_ | (with_reducible refine brc (fun _h => ?_) fun _h => ?_) <;> first | (exfalso; omega) | simp only [decide_eq_false _h] | simp only [(_h : (_ : Bool) = _)] | simp only [decide_eq_true _h] | skip)
      all_goals skip
    · have hL0 : L = [] := by
        rw [uhB, decide_eq_false (by omega), Bool.false_or] at hb1
        exact List.isEmpty_iff.1 hb1
      subst hL0
      rw [uhO_t, uhR_t]
      repeat' (first | with_reducible refine inw ?_ | simp (maxSteps := 900000) (disch := omega) only [go_sem, Nat.reduceEqDiff, ↓reduceIte, reduceCtorEq, Nat.reduceAdd, Nat.reduceMul, Int.reduceToNat, List.reduceReplicate, Nat.reduceLeDiff, Nat.reduceLT, Int.reduceLT, Int.reduceLE, Int.reduceEq, q1, q2] | with_reducible refine pickB_f ?_ | with_reducible refine giv_intro fun _h => ?_ | with_reducible refine alt_intro ?_ fun _h => ?_ | with_reducible refine pickD_nil ?_ | (with_reducible refine brc (fun _h => ?_) fun _h => ?_) <;> first | (exfalso; omega) | simp only [decide_eq_false _h] | simp only [(_h : (_ : Bool) = _)] | simp only [decide_eq_true _h] | skip)
      refine sortE_call (ρ := sortV_ren) sortV ⟨_, Try.func102, by kernel_rfl, by kernel_rfl⟩ ?_
      repeat' (first | with_reducible refine inw ?_ | simp (maxSteps := 900000) (disch := omega) only [go_sem, Nat.reduceEqDiff, ↓reduceIte, reduceCtorEq, Nat.reduceAdd, Nat.reduceMul, Int.reduceToNat, List.reduceReplicate, Nat.reduceLeDiff, Nat.reduceLT, Int.reduceLT, Int.reduceLE, Int.reduceEq, q1, q2] | with_reducible refine pickB_f ?_ | with_reducible refine giv_intro fun _h => ?_ | with_reducible refine alt_intro ?_ fun _h => ?_ | with_reducible refine pickD_nil ?_ | (with_reducible refine brc (fun _h => ?_) fun _h => ?_) <;> first | (exfalso; omega) | simp only [decide_eq_false _h] | simp only [(_h : (_ : Bool) = _)] | simp only [decide_eq_true _h] | skip)
      all_goals rfl
end Go.Proofs.Ytpfoflhhbkjngaa.Ev

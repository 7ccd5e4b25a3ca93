/- The spans of the uppermost nodes with tags; the law DependBelows. -/
import Derived.Test.YtkedbkdbnmmkhaaFnKh
set_option linter.unusedVariables false
set_option linter.unusedSimpArgs false
namespace Go.Proofs.Ytkedbkdbnmmkhaa.Ev
open Go Go.Proofs

/-- Nothing with the tags stands on the way up from x. -/
def ancF (l : List Hung) (t : List Str) : Nat → Int → Bool
  | 0, _ => true
  | n + 1, x => if x < 0 then true else !hasB (nth l x.toNat).1 t && ancF l t n (hd l x)
def ancB (l : List Hung) (t : List Str) (x : Int) : Bool := ancF l t (l.length + 1) x
theorem ancF_more {l : List Hung} {t : List Str} : ∀ (n : Nat) (x : Int), it l n x < 0 → ancF l t (n + 1) x = ancF l t n x
  | 0, x, h => by
    show (if x < 0 then true else _) = true
    rw [if_pos (show x < 0 from h)]
  | n + 1, x, h => by
    rw [ancF]
    by_cases h0 : x < 0
    · rw [if_pos h0, ancF, if_pos h0]
    · rw [if_neg h0, ancF_more n _ h]; conv => rhs; rw [ancF, if_neg h0]
theorem ancB_step {l : List Hung} (hl : Hds l) (he : Ends l) (t : List Str) {x : Int} (h0 : 0 ≤ x) (hx : x < l.length) : ancB l t x = (!hasB (nth l x.toNat).1 t && ancB l t (hd l x)) := by
  have h1 := ancF_more (t := t) l.length (hd l x) (ends_len hl he (hd_lt hl hx))
  unfold ancB
  rw [h1, ancF, if_neg (by omega)]
theorem ancB_neg (l : List Hung) (t : List Str) {x : Int} (h : x < 0) : ancB l t x = true := by rw [ancB, ancF, if_pos h]
def topB (l : List Hung) (t : List Str) (k : Nat) : Bool := hasB (nth l k).1 t && ancB l t (nth l k).2.1
def chF (l : List Hung) (t : List Str) : Nat → List (Int × Int)
  | 0 => []
  | k + 1 => if topB l t k = true then chF l t k ++ [(nth (belowL l k) 0, nth (belowL l k) ((belowL l k).length - 1))] else chF l t k
theorem chF_len (l : List Hung) (t : List Str) : ∀ k, (chF l t k).length ≤ k
  | 0 => by simp [chF]
  | k + 1 => by
    have := chF_len l t k
    rw [chF]; split <;> simp <;> omega
def chT (l : List Hung) (t : List Str) : List (Int × Int) × Int := if valE l ≠ 0 then ([], valE l) else if 16 < t.length then ([], 3) else if setB t = true then (chF l t l.length, 0) else ([], 1)
theorem cat_pp (l : List (Int × Int)) (a b : Int) : cellsL l ++ [intA a, intA b] = cellsL (l ++ [(a, b)]) := cellsL_app l [(a, b)]
theorem z2_int : zcells [Value.int .i64 0, Value.int .i64 0] 2 = [intA 0, intA 0] := rfl
theorem src_two (S : St) (x y : AV) : srcOf S 2 (.ro 1 [x, y]) = some (1, [x, y]) := by simp [srcOf]
abbrev duoP (t : List (Int × Int) × Int) : AV := .tup [sl t.1, intA t.2]
/-- ablaut/depend.Chunks: 2 parameters, 0 captured -/
def s29 : SC := .seq (.reg [o1 4 (.mv (.c (.slice none 0 0))),
   o1 5 (.mv (cI 0))])
  (.seq (.seq (.reg [o1 13 (.mv (.t 0)),
     o1 14 (.call (.f 37) [(.t 13)]),
     o1 6 (.mv (.t 14))])
    (.seq (.reg [o1 15 (.mv (.t 6)),
      o1 16 (.bin .neq (.t 15) (cI 0))])
     (.cond (.t 16) (.seq (.reg [o1 17 (.mv (.t 6)),
        o1 4 (.mv (.c (.slice none 0 0))),
        o1 5 (.mv (.t 17))])
       (.ret)) (.skip))))
   (.seq (.block 0 (.seq (.reg [o1 19 (.mv (.t 1)),
       o1 20 (.lenL (.t 19)),
       o1 21 (.bin .gtr (.t 20) (cI 16)),
       o1 18 (.mv (.t 21))])
      (.cond (.t 18) (.seq (.reg [o1 4 (.mv (.c (.slice none 0 0))),
         o1 5 (.mv (cI 3))])
        (.ret)) (.seq (.reg [o1 23 (.mv (.t 1)),
         o1 24 (.call (.f 56) [(.t 23)]),
         o1 25 (.un .not (.t 24)),
         o1 22 (.mv (.t 25))])
        (.cond (.t 22) (.seq (.reg [o1 4 (.mv (.c (.slice none 0 0))),
           o1 5 (.mv (cI 1))])
          (.ret)) (.skip))))))
    (.seq (.reg [o1 7 (.mv (.c (.slice none 0 0)))])
     (.seq (.seq (.reg [o1 26 (.mv (.t 0)),
        o1 27 (.lenL (.t 26)),
        o1 28 (.mv (cI 0))])
       (.block 1 (.loop (.seq (.reg [o1 29 (.bin .lss (.t 28) (.t 27))])
          (.seq (.cond (.t 29) (.skip) (.exit 1))
           (.seq (.block 2 (.seq (.reg [o1 30 (.mv (.t 28)),
               o1 31 (.iaddr 3 (.t 26) (.t 28)),
               o1 32 (.load (some 3) (.t 31)),
               o1 9 (.alloc 34 3 [(.slice none 0 0), (.int .i64 0), (.string ⟨#[]⟩)]),
               o1 8 (.mv (.t 30)),
               o0 (.store 3 (.t 9) (.t 32))])
              (.seq (.reg [o1 33 (.load (some 3) (.t 9)),
                o1 34 (.mv (.t 1)),
                o1 35 (.call (.f 39) [(.t 33), (.t 34)]),
                o1 10 (.mv (.t 35))])
               (.seq (.seq (.reg [o1 36 (.faddr 1 (.t 9)),
                  o1 37 (.load none (.t 36)),
                  o1 11 (.mv (.t 37))])
                 (.block 3 (.loop (.seq (.seq (.reg [o1 38 (.mv (.t 10)),
                      o1 39 (.mv (.t 38)),
                      oT 40 (.mv (.t 11)) 39,
                      oT 41 (.bin .geq (.t 40) (cI 0)) 39,
                      o1 42 (.pick (.t 39) (.t 41) (cB false))])
                     (.cond (.t 42) (.skip) (.exit 3)))
                    (.seq (.block 4 (.reg [o1 48 (.mv (.t 0)),
                       o1 49 (.mv (.t 11)),
                       o1 50 (.iaddr 3 (.t 48) (.t 49)),
                       o1 51 (.load (some 3) (.t 50)),
                       o1 52 (.mv (.t 1)),
                       o1 53 (.call (.f 39) [(.t 51), (.t 52)]),
                       o1 54 (.un .not (.t 53)),
                       o1 10 (.mv (.t 54))]))
                     (.reg [o1 43 (.mv (.t 0)),
                      o1 44 (.mv (.t 11)),
                      o1 45 (.iaddr 3 (.t 43) (.t 44)),
                      o1 46 (.faddr 1 (.t 45)),
                      o1 47 (.load none (.t 46)),
                      o1 11 (.mv (.t 47))]))))))
                (.seq (.reg [o1 55 (.mv (.t 10))])
                 (.cond (.t 55) (.seq (.reg [o1 56 (.mv (.t 0)),
                    o1 57 (.mv (.t 8)),
                    o1 58 (.call (.f 54) [(.t 56), (.t 57)]),
                    o1 12 (.mv (.t 58))])
                   (.regE [o1 59 (.mv (.t 7)),
                    o1 60 (.mv (.t 12)),
                    o1 61 (.iaddr 1 (.t 60) (cI 0)),
                    o1 62 (.load none (.t 61)),
                    o1 63 (.mv (.t 12)),
                    o1 64 (.mv (.t 12)),
                    o1 65 (.lenL (.t 64)),
                    o1 66 (.bin .sub (.t 65) (cI 1)),
                    o1 67 (.iaddr 1 (.t 63) (.t 66)),
                    o1 68 (.load none (.t 67)),
                    o1 69 (.build [(.int .i64 0), (.int .i64 0)] [(0, 1, (.t 62)), (1, 1, (.t 68))]),
                    o1 70 (.buildSl 51 2 1 [(.int .i64 0), (.int .i64 0)] [(0, 2, (.t 69))]),
                    o1 71 (.app 51 2 16 (.t 59) (.t 70)),
                    o1 7 (.mv (.t 71))])) (.skip)))))))
            (.reg [o1 72 (.bin .add (.t 28) (cI 1)),
             o1 28 (.mv (.t 72))])))))))
      (.seq (.reg [o1 73 (.mv (.t 7)),
        o1 4 (.mv (.t 73)),
        o1 5 (.mv (cI 0))])
       (.ret))))))
theorem s29_ok : lookF Try.prog 29 = some (s29, 74, [.tmp 4, .tmp 5]) := by kernel_rfl
set_option maxHeartbeats 2000000 in
theorem chunks_ok (l : List Hung) (hs : SmH l) (t : List Str) (ht : SmS t) : Fn P 29 [sl l, sl t] (duoP (chT l t)) := by
  have c1 := validate_ok l hs
  by_cases h1 : valE l = 0
  · obtain ⟨v1, v2, v3⟩ := valE_ok h1
    rw [h1] at c1
    by_cases h2 : 16 < t.length
    · rw [chT, if_neg (by omega), if_pos h2]
      (refine fn_look s29_ok (by simp) (by intro k; simp only [go_sem, Nat.reduceEqDiff, ↓reduceIte, reduceCtorEq, Nat.reduceAdd, Nat.reduceMul, Int.reduceToNat, List.reduceReplicate, Nat.reduceLeDiff, Nat.reduceLT, Int.reduceLT, Int.reduceLE, Int.reduceEq]) fun S hS => cwp_sound _ _ _ _ ?_; simp (disch := omega) only [s29, go_sem, Nat.reduceEqDiff, ↓reduceIte, reduceCtorEq, Nat.reduceAdd, Nat.reduceMul, Int.reduceToNat, List.reduceReplicate, Nat.reduceLeDiff, Nat.reduceLT, Int.reduceLT, Int.reduceLE, Int.reduceEq])
      repeat' (first | with_reducible refine inw ?_ | simp (disch := omega) only [go_sem, Nat.reduceEqDiff, ↓reduceIte, reduceCtorEq, Nat.reduceAdd, Nat.reduceMul, Int.reduceToNat, List.reduceReplicate, Nat.reduceLeDiff, Nat.reduceLT, Int.reduceLT, Int.reduceLE, Int.reduceEq] | (with_reducible apply call (c1)); (focus simp (disch := omega) only [go_sem, Nat.reduceEqDiff, ↓reduceIte, reduceCtorEq, Nat.reduceAdd, Nat.reduceMul, Int.reduceToNat, List.reduceReplicate, Nat.reduceLeDiff, Nat.reduceLT, Int.reduceLT, Int.reduceLE, Int.reduceEq] <;> rfl) | with_reducible refine giv_intro fun _h => ?_ | with_reducible refine alt_intro ?_ fun _h => ?_ | with_reducible refine pickD_nil ?_ | (with_reducible refine brc (fun _h => ?_) fun _h => ?_) <;> first | (exfalso; omega) | simp only [decide_eq_false _h] | simp only [(_h : (_ : Bool) = _)] | simp only [decide_eq_true _h] | skip)
      all_goals rfl
    · have c2 := isSet_ok t ht.sizes
      by_cases h3 : setB t = true
      · rw [h3] at c2
        rw [chT, if_neg (by omega), if_neg h2, if_pos h3]
        (refine fn_look s29_ok (by simp) (by intro k; simp only [go_sem, Nat.reduceEqDiff, ↓reduceIte, reduceCtorEq, Nat.reduceAdd, Nat.reduceMul, Int.reduceToNat, List.reduceReplicate, Nat.reduceLeDiff, Nat.reduceLT, Int.reduceLT, Int.reduceLE, Int.reduceEq]) fun S hS => cwp_sound _ _ _ _ ?_; simp (disch := omega) only [s29, go_sem, Nat.reduceEqDiff, ↓reduceIte, reduceCtorEq, Nat.reduceAdd, Nat.reduceMul, Int.reduceToNat, List.reduceReplicate, Nat.reduceLeDiff, Nat.reduceLT, Int.reduceLT, Int.reduceLE, Int.reduceEq])
        repeat' (first | with_reducible refine inw ?_ | simp (disch := omega) only [go_sem, Nat.reduceEqDiff, ↓reduceIte, reduceCtorEq, Nat.reduceAdd, Nat.reduceMul, Int.reduceToNat, List.reduceReplicate, Nat.reduceLeDiff, Nat.reduceLT, Int.reduceLT, Int.reduceLE, Int.reduceEq] | (with_reducible apply call (c1)); (focus simp (disch := omega) only [go_sem, Nat.reduceEqDiff, ↓reduceIte, reduceCtorEq, Nat.reduceAdd, Nat.reduceMul, Int.reduceToNat, List.reduceReplicate, Nat.reduceLeDiff, Nat.reduceLT, Int.reduceLT, Int.reduceLE, Int.reduceEq] <;> rfl) | (with_reducible apply call (c2)); (focus simp (disch := omega) only [go_sem, Nat.reduceEqDiff, ↓reduceIte, reduceCtorEq, Nat.reduceAdd, Nat.reduceMul, Int.reduceToNat, List.reduceReplicate, Nat.reduceLeDiff, Nat.reduceLT, Int.reduceLT, Int.reduceLE, Int.reduceEq] <;> rfl) | with_reducible refine giv_intro fun _h => ?_ | with_reducible refine alt_intro ?_ fun _h => ?_ | with_reducible refine pickD_nil ?_ | (with_reducible refine brc (fun _h => ?_) fun _h => ?_) <;> first | (exfalso; omega) | simp only [decide_eq_false _h] | simp only [(_h : (_ : Bool) = _)] | simp only [decide_eq_true _h] | skip)
        refine nil_row 7 51 2 (by simp (disch := omega) only [go_sem, Nat.reduceEqDiff, ↓reduceIte, reduceCtorEq, Nat.reduceAdd, Nat.reduceMul, Int.reduceToNat, List.reduceReplicate, Nat.reduceLeDiff, Nat.reduceLT, Int.reduceLT, Int.reduceLE, Int.reduceEq]) ?_
        (refine loopC hS [0, 1, 26, 27] (by simp only [go_sem, Nat.reduceEqDiff, ↓reduceIte, reduceCtorEq, Nat.reduceAdd, Nat.reduceMul, Int.reduceToNat, List.reduceReplicate, Nat.reduceLeDiff, Nat.reduceLT, Int.reduceLT, Int.reduceLE, Int.reduceEq]; try rfl) (fun (k : Nat) => [(7, own S 0 (chF l t k)), (28, intA k)]) (fun (k : Nat) => [rowO 51 (chF l t k)]) (fun (k : Nat) => k ≤ l.length) (fun (k : Nat) => l.length - k) (0) ?h01 ?hn1 ?rd1; case hn1 => (intro s; first | rfl | (rcases s with ⟨_, _⟩; rfl) | (rcases s with ⟨_, _, _⟩; rfl) | (rcases s with ⟨_, _, _, _⟩; rfl) | (rcases s with ⟨_, _, _, _, _⟩; rfl)))
        · simp (disch := omega) only [go_sem, Nat.reduceEqDiff, ↓reduceIte, reduceCtorEq, Nat.reduceAdd, Nat.reduceMul, Int.reduceToNat, List.reduceReplicate, Nat.reduceLeDiff, Nat.reduceLT, Int.reduceLT, Int.reduceLE, Int.reduceEq]; simp [chF]; rfl
        rintro k hk
        replace hk : k ≤ l.length := hk
        have hb := chF_len l t k
        by_cases hkl : k < l.length
        · have c3 := has_ok (nth l k) t
          have hlo := v2 k hkl
          repeat' (first | with_reducible refine inw ?_ | simp (disch := omega) only [go_sem, Nat.reduceEqDiff, ↓reduceIte, reduceCtorEq, Nat.reduceAdd, Nat.reduceMul, Int.reduceToNat, List.reduceReplicate, Nat.reduceLeDiff, Nat.reduceLT, Int.reduceLT, Int.reduceLE, Int.reduceEq] | (with_reducible apply call (c3)); (focus simp (disch := omega) only [go_sem, Nat.reduceEqDiff, ↓reduceIte, reduceCtorEq, Nat.reduceAdd, Nat.reduceMul, Int.reduceToNat, List.reduceReplicate, Nat.reduceLeDiff, Nat.reduceLT, Int.reduceLT, Int.reduceLE, Int.reduceEq] <;> rfl) | with_reducible refine giv_intro fun _h => ?_ | with_reducible refine alt_intro ?_ fun _h => ?_ | with_reducible refine pickD_nil ?_ | (with_reducible refine brc (fun _h => ?_) fun _h => ?_) <;> first | (exfalso; omega) | simp only [decide_eq_false _h] | simp only [(_h : (_ : Bool) = _)] | simp only [decide_eq_true _h] | skip)
          (refine loopC hS [0, 1, 7, 8, 26, 27, 28] (by simp only [go_sem, Nat.reduceEqDiff, ↓reduceIte, reduceCtorEq, Nat.reduceAdd, Nat.reduceMul, Int.reduceToNat, List.reduceReplicate, Nat.reduceLeDiff, Nat.reduceLT, Int.reduceLT, Int.reduceLE, Int.reduceEq]; try rfl) (fun (⟨ok, up⟩ : Bool × Int) => [(10, boolA ok), (11, intA up)]) (fun (⟨ok, up⟩ : Bool × Int) => [rowO 51 (chF l t k), none]) (fun (⟨ok, up⟩ : Bool × Int) => -2 ≤ up ∧ up < l.length ∧ topB l t k = (ok && ancB l t up)) (fun (⟨ok, up⟩ : Bool × Int) => far l (l.length + 1) up) ((hasB (nth l k).1 t, (nth l k).2.1)) ?h02 ?hn2 ?rd2; case hn2 => (intro s; first | rfl | (rcases s with ⟨_, _⟩; rfl) | (rcases s with ⟨_, _, _⟩; rfl) | (rcases s with ⟨_, _, _, _⟩; rfl) | (rcases s with ⟨_, _, _, _, _⟩; rfl)))
          · exact ⟨⟨hlo.1, hlo.2, rfl⟩, by simp (disch := omega) only [go_sem, Nat.reduceEqDiff, ↓reduceIte, reduceCtorEq, Nat.reduceAdd, Nat.reduceMul, Int.reduceToNat, List.reduceReplicate, Nat.reduceLeDiff, Nat.reduceLT, Int.reduceLT, Int.reduceLE, Int.reduceEq]⟩
          rintro ⟨ok, up⟩ ⟨hu0, hu1, hT⟩
          replace hu0 : -2 ≤ up := hu0
          replace hu1 : up < l.length := hu1
          replace hT : topB l t k = (ok && ancB l t up) := hT
          have hst : chF l t (k + 1) = if topB l t k = true then chF l t k ++ [(nth (belowL l k) 0, nth (belowL l k) ((belowL l k).length - 1))] else chF l t k := rfl
          by_cases hok : ok = true
          · subst hok
            by_cases hn : 0 ≤ up
            · have c4 := has_ok (nth l up.toNat) t
              have hh := hd_nth (l := l) hn
              have h5 := far_step v2 v3 hn hu1
              have h6 := hd_lo v2 hu1 hu0
              have h7 := hd_lt v2 hu1
              rw [ancB_step v2 v3 t hn hu1, Bool.true_and] at hT
              repeat' (first | with_reducible refine inw ?_ | simp (disch := omega) only [go_sem, Nat.reduceEqDiff, ↓reduceIte, reduceCtorEq, Nat.reduceAdd, Nat.reduceMul, Int.reduceToNat, List.reduceReplicate, Nat.reduceLeDiff, Nat.reduceLT, Int.reduceLT, Int.reduceLE, Int.reduceEq, ← hh] | (with_reducible apply call (c4)); (focus simp (disch := omega) only [go_sem, Nat.reduceEqDiff, ↓reduceIte, reduceCtorEq, Nat.reduceAdd, Nat.reduceMul, Int.reduceToNat, List.reduceReplicate, Nat.reduceLeDiff, Nat.reduceLT, Int.reduceLT, Int.reduceLE, Int.reduceEq, ← hh] <;> rfl) | with_reducible refine giv_intro fun _h => ?_ | with_reducible refine alt_intro ?_ fun _h => ?_ | with_reducible refine pickD_nil ?_ | (with_reducible refine brc (fun _h => ?_) fun _h => ?_) <;> first | (exfalso; omega) | simp only [decide_eq_false _h] | simp only [(_h : (_ : Bool) = _)] | simp only [decide_eq_true _h] | skip)
              exact ⟨(!hasB (nth l up.toNat).1 t, hd l up), ⟨h5, h6, h7, hT⟩, rfl, rfl⟩
            · rw [ancB_neg l t (by omega), Bool.and_self] at hT
              have hp := belowL_pos (l := l) (i := k) (by omega) (by omega)
              have hm : (belowL l k).length ≤ 200 := by have := belowF_len l k l.length; unfold belowL; omega
              have c5 := below_ok l v2 v3 v1 k (by omega)
              rw [if_pos hT] at hst
              generalize belowL l k = b at *
              have e1 : ((b.length : Int) - 1) = ((b.length - 1 : Nat) : Int) := by omega
              have e2 := head_cells hp
              rw [List.drop_zero] at e2
              repeat' (first | with_reducible refine inw ?_ | simp (disch := omega) only [go_sem, Nat.reduceEqDiff, ↓reduceIte, reduceCtorEq, Nat.reduceAdd, Nat.reduceMul, Int.reduceToNat, List.reduceReplicate, Nat.reduceLeDiff, Nat.reduceLT, Int.reduceLT, Int.reduceLE, Int.reduceEq, e1, e2, cat_pp, z2_int, src_two] | (with_reducible apply call (c5)); (focus simp (disch := omega) only [go_sem, Nat.reduceEqDiff, ↓reduceIte, reduceCtorEq, Nat.reduceAdd, Nat.reduceMul, Int.reduceToNat, List.reduceReplicate, Nat.reduceLeDiff, Nat.reduceLT, Int.reduceLT, Int.reduceLE, Int.reduceEq, e1, e2, cat_pp, z2_int, src_two] <;> rfl) | with_reducible refine giv_intro fun _h => ?_ | with_reducible refine alt_intro ?_ fun _h => ?_ | with_reducible refine pickD_nil ?_ | (with_reducible refine brc (fun _h => ?_) fun _h => ?_) <;> first | (exfalso; omega) | simp only [decide_eq_false _h] | simp only [(_h : (_ : Bool) = _)] | simp only [decide_eq_true _h] | skip)
              exact ⟨k + 1, ⟨by omega, by omega⟩, ⟨⟨by rw [hst]; simp, by rw [hst]; simp⟩, by omega⟩, by rw [hst]⟩
          · have hok : ok = false := by simpa using hok
            subst hok
            rw [Bool.false_and] at hT
            rw [if_neg (by rw [hT]; simp)] at hst
            repeat' (first | with_reducible refine inw ?_ | simp (disch := omega) only [go_sem, Nat.reduceEqDiff, ↓reduceIte, reduceCtorEq, Nat.reduceAdd, Nat.reduceMul, Int.reduceToNat, List.reduceReplicate, Nat.reduceLeDiff, Nat.reduceLT, Int.reduceLT, Int.reduceLE, Int.reduceEq] | with_reducible refine giv_intro fun _h => ?_ | with_reducible refine alt_intro ?_ fun _h => ?_ | with_reducible refine pickD_nil ?_ | (with_reducible refine brc (fun _h => ?_) fun _h => ?_) <;> first | (exfalso; omega) | simp only [decide_eq_false _h] | simp only [(_h : (_ : Bool) = _)] | simp only [decide_eq_true _h] | skip)
            exact ⟨k + 1, ⟨by omega, by omega⟩, ⟨⟨by rw [hst], by rw [hst]⟩, by omega⟩, by rw [hst]⟩
        · have hkk : k = l.length := by omega
          subst hkk
          repeat' (first | with_reducible refine inw ?_ | simp (disch := omega) only [go_sem, Nat.reduceEqDiff, ↓reduceIte, reduceCtorEq, Nat.reduceAdd, Nat.reduceMul, Int.reduceToNat, List.reduceReplicate, Nat.reduceLeDiff, Nat.reduceLT, Int.reduceLT, Int.reduceLE, Int.reduceEq] | with_reducible refine giv_intro fun _h => ?_ | with_reducible refine alt_intro ?_ fun _h => ?_ | with_reducible refine pickD_nil ?_ | (with_reducible refine brc (fun _h => ?_) fun _h => ?_) <;> first | (exfalso; omega) | simp only [decide_eq_false _h] | simp only [(_h : (_ : Bool) = _)] | simp only [decide_eq_true _h] | skip)
      · rw [chT, if_neg (by omega), if_neg h2, if_neg h3]
        rw [show setB t = false by simpa using h3] at c2
        (refine fn_look s29_ok (by simp) (by intro k; simp only [go_sem, Nat.reduceEqDiff, ↓reduceIte, reduceCtorEq, Nat.reduceAdd, Nat.reduceMul, Int.reduceToNat, List.reduceReplicate, Nat.reduceLeDiff, Nat.reduceLT, Int.reduceLT, Int.reduceLE, Int.reduceEq]) fun S hS => cwp_sound _ _ _ _ ?_; simp (disch := omega) only [s29, go_sem, Nat.reduceEqDiff, ↓reduceIte, reduceCtorEq, Nat.reduceAdd, Nat.reduceMul, Int.reduceToNat, List.reduceReplicate, Nat.reduceLeDiff, Nat.reduceLT, Int.reduceLT, Int.reduceLE, Int.reduceEq])
        repeat' (first | with_reducible refine inw ?_ | simp (disch := omega) only [go_sem, Nat.reduceEqDiff, ↓reduceIte, reduceCtorEq, Nat.reduceAdd, Nat.reduceMul, Int.reduceToNat, List.reduceReplicate, Nat.reduceLeDiff, Nat.reduceLT, Int.reduceLT, Int.reduceLE, Int.reduceEq] | (with_reducible apply call (c1)); (focus simp (disch := omega) only [go_sem, Nat.reduceEqDiff, ↓reduceIte, reduceCtorEq, Nat.reduceAdd, Nat.reduceMul, Int.reduceToNat, List.reduceReplicate, Nat.reduceLeDiff, Nat.reduceLT, Int.reduceLT, Int.reduceLE, Int.reduceEq] <;> rfl) | (with_reducible apply call (c2)); (focus simp (disch := omega) only [go_sem, Nat.reduceEqDiff, ↓reduceIte, reduceCtorEq, Nat.reduceAdd, Nat.reduceMul, Int.reduceToNat, List.reduceReplicate, Nat.reduceLeDiff, Nat.reduceLT, Int.reduceLT, Int.reduceLE, Int.reduceEq] <;> rfl) | with_reducible refine giv_intro fun _h => ?_ | with_reducible refine alt_intro ?_ fun _h => ?_ | with_reducible refine pickD_nil ?_ | (with_reducible refine brc (fun _h => ?_) fun _h => ?_) <;> first | (exfalso; omega) | simp only [decide_eq_false _h] | simp only [(_h : (_ : Bool) = _)] | simp only [decide_eq_true _h] | skip)
        all_goals rfl
  · rw [chT, if_pos h1]
    (refine fn_look s29_ok (by simp) (by intro k; simp only [go_sem, Nat.reduceEqDiff, ↓reduceIte, reduceCtorEq, Nat.reduceAdd, Nat.reduceMul, Int.reduceToNat, List.reduceReplicate, Nat.reduceLeDiff, Nat.reduceLT, Int.reduceLT, Int.reduceLE, Int.reduceEq]) fun S hS => cwp_sound _ _ _ _ ?_; simp (disch := omega) only [s29, go_sem, Nat.reduceEqDiff, ↓reduceIte, reduceCtorEq, Nat.reduceAdd, Nat.reduceMul, Int.reduceToNat, List.reduceReplicate, Nat.reduceLeDiff, Nat.reduceLT, Int.reduceLT, Int.reduceLE, Int.reduceEq])
    repeat' (first | with_reducible refine inw ?_ | simp (disch := omega) only [go_sem, Nat.reduceEqDiff, ↓reduceIte, reduceCtorEq, Nat.reduceAdd, Nat.reduceMul, Int.reduceToNat, List.reduceReplicate, Nat.reduceLeDiff, Nat.reduceLT, Int.reduceLT, Int.reduceLE, Int.reduceEq] | (with_reducible apply call (c1)); (focus simp (disch := omega) only [go_sem, Nat.reduceEqDiff, ↓reduceIte, reduceCtorEq, Nat.reduceAdd, Nat.reduceMul, Int.reduceToNat, List.reduceReplicate, Nat.reduceLeDiff, Nat.reduceLT, Int.reduceLT, Int.reduceLE, Int.reduceEq] <;> rfl) | with_reducible refine giv_intro fun _h => ?_ | with_reducible refine alt_intro ?_ fun _h => ?_ | with_reducible refine pickD_nil ?_ | (with_reducible refine brc (fun _h => ?_) fun _h => ?_) <;> first | (exfalso; omega) | simp only [decide_eq_false _h] | simp only [(_h : (_ : Bool) = _)] | simp only [decide_eq_true _h] | skip)
    all_goals rfl
/-- ablaut/ablautref21.Chunks: 2 parameters, 0 captured -/
def s30 : SC := .seq (.reg [o1 4 (.mv (.c (.slice none 0 0))),
   o1 5 (.mv (cI 0))])
  (.seq (.seq (.reg [o1 12 (.mv (.t 0)),
     o1 13 (.call (.f 45) [(.t 12)]),
     o1 6 (.mv (.t 13))])
    (.seq (.reg [o1 14 (.mv (.t 6)),
      o1 15 (.bin .neq (.t 14) (cI 0))])
     (.cond (.t 15) (.seq (.reg [o1 16 (.mv (.t 6)),
        o1 4 (.mv (.c (.slice none 0 0))),
        o1 5 (.mv (.t 16))])
       (.ret)) (.skip))))
   (.seq (.seq (.reg [o1 17 (.mv (.t 1)),
      o1 18 (.lenL (.t 17)),
      o1 19 (.bin .gtr (.t 18) (cI 16))])
     (.cond (.t 19) (.seq (.reg [o1 4 (.mv (.c (.slice none 0 0))),
        o1 5 (.mv (cI 3))])
       (.ret)) (.skip)))
    (.seq (.seq (.reg [o1 20 (.mv (.t 1)),
       o1 21 (.call (.f 57) [(.t 20)]),
       o1 22 (.un .not (.t 21))])
      (.cond (.t 22) (.seq (.reg [o1 4 (.mv (.c (.slice none 0 0))),
         o1 5 (.mv (cI 1))])
        (.ret)) (.skip)))
     (.seq (.reg [o1 7 (.mv (.c (.slice none 0 0)))])
      (.seq (.seq (.reg [o1 8 (.mv (cI 0))])
        (.block 0 (.loop (.seq (.seq (.reg [o1 23 (.mv (.t 8)),
             o1 24 (.mv (.t 0)),
             o1 25 (.lenL (.t 24)),
             o1 26 (.bin .lss (.t 23) (.t 25))])
            (.cond (.t 26) (.skip) (.exit 0)))
           (.seq (.block 1 (.seq (.reg [o1 29 (.mv (.t 1)),
               o1 30 (.mv (.t 0)),
               o1 31 (.mv (.t 8)),
               o1 32 (.iaddr 3 (.t 30) (.t 31)),
               o1 33 (.faddr 0 (.t 32)),
               o1 34 (.load none (.t 33)),
               o1 35 (.call (.f 47) [(.t 29), (.t 34)]),
               o1 9 (.mv (.t 35))])
              (.seq (.seq (.reg [o1 36 (.mv (.t 0)),
                 o1 37 (.mv (.t 8)),
                 o1 38 (.iaddr 3 (.t 36) (.t 37)),
                 o1 39 (.faddr 1 (.t 38)),
                 o1 40 (.load none (.t 39)),
                 o1 10 (.mv (.t 40))])
                (.block 2 (.loop (.seq (.seq (.reg [o1 41 (.mv (.t 10)),
                     o1 42 (.bin .geq (.t 41) (cI 0))])
                    (.cond (.t 42) (.skip) (.exit 2)))
                   (.seq (.block 3 (.reg [o1 48 (.mv (.t 9)),
                      o1 49 (.mv (.t 48)),
                      oT 50 (.mv (.t 1)) 49,
                      oT 51 (.mv (.t 0)) 49,
                      oT 52 (.mv (.t 10)) 49,
                      oT 53 (.iaddr 3 (.t 51) (.t 52)) 49,
                      oT 54 (.faddr 0 (.t 53)) 49,
                      oT 55 (.load none (.t 54)) 49,
                      oT 56 (.call (.f 47) [(.t 50), (.t 55)]) 49,
                      oT 57 (.un .not (.t 56)) 49,
                      o1 58 (.pick (.t 49) (.t 57) (cB false)),
                      o1 9 (.mv (.t 58))]))
                    (.reg [o1 43 (.mv (.t 0)),
                     o1 44 (.mv (.t 10)),
                     o1 45 (.iaddr 3 (.t 43) (.t 44)),
                     o1 46 (.faddr 1 (.t 45)),
                     o1 47 (.load none (.t 46)),
                     o1 10 (.mv (.t 47))]))))))
               (.seq (.reg [o1 59 (.mv (.t 9))])
                (.cond (.t 59) (.seq (.reg [o1 60 (.mv (.t 0)),
                   o1 61 (.mv (.t 8)),
                   o1 62 (.call (.f 55) [(.t 60), (.t 61)]),
                   o1 11 (.mv (.t 62))])
                  (.regE [o1 63 (.mv (.t 7)),
                   o1 64 (.mv (.t 11)),
                   o1 65 (.iaddr 1 (.t 64) (cI 0)),
                   o1 66 (.load none (.t 65)),
                   o1 67 (.mv (.t 11)),
                   o1 68 (.mv (.t 11)),
                   o1 69 (.lenL (.t 68)),
                   o1 70 (.bin .sub (.t 69) (cI 1)),
                   o1 71 (.iaddr 1 (.t 67) (.t 70)),
                   o1 72 (.load none (.t 71)),
                   o1 73 (.build [(.int .i64 0), (.int .i64 0)] [(0, 1, (.t 66)), (1, 1, (.t 72))]),
                   o1 74 (.buildSl 51 2 1 [(.int .i64 0), (.int .i64 0)] [(0, 2, (.t 73))]),
                   o1 75 (.app 51 2 16 (.t 63) (.t 74)),
                   o1 7 (.mv (.t 75))])) (.skip))))))
            (.reg [o1 27 (.mv (.t 8)),
             o1 28 (.bin .add (.t 27) (cI 1)),
             o1 8 (.mv (.t 28))]))))))
       (.seq (.reg [o1 76 (.mv (.t 7)),
         o1 4 (.mv (.t 76)),
         o1 5 (.mv (cI 0))])
        (.ret)))))))
theorem s30_ok : lookF Try.prog 30 = some (s30, 77, [.tmp 4, .tmp 5]) := by kernel_rfl
set_option maxHeartbeats 2000000 in
theorem rChunks_ok (l : List Hung) (hs : SmH l) (t : List Str) (ht : SmS t) : Fn P 30 [sl l, sl t] (duoP (chT l t)) := by
  have c1 := rValidate_ok l hs
  by_cases h1 : valE l = 0
  · obtain ⟨v1, v2, v3⟩ := valE_ok h1
    rw [h1] at c1
    by_cases h2 : 16 < t.length
    · rw [chT, if_neg (by omega), if_pos h2]
      (refine fn_look s30_ok (by simp) (by intro k; simp only [go_sem, Nat.reduceEqDiff, ↓reduceIte, reduceCtorEq, Nat.reduceAdd, Nat.reduceMul, Int.reduceToNat, List.reduceReplicate, Nat.reduceLeDiff, Nat.reduceLT, Int.reduceLT, Int.reduceLE, Int.reduceEq]) fun S hS => cwp_sound _ _ _ _ ?_; simp (disch := omega) only [s30, go_sem, Nat.reduceEqDiff, ↓reduceIte, reduceCtorEq, Nat.reduceAdd, Nat.reduceMul, Int.reduceToNat, List.reduceReplicate, Nat.reduceLeDiff, Nat.reduceLT, Int.reduceLT, Int.reduceLE, Int.reduceEq])
      repeat' (first | with_reducible refine inw ?_ | simp (disch := omega) only [go_sem, Nat.reduceEqDiff, ↓reduceIte, reduceCtorEq, Nat.reduceAdd, Nat.reduceMul, Int.reduceToNat, List.reduceReplicate, Nat.reduceLeDiff, Nat.reduceLT, Int.reduceLT, Int.reduceLE, Int.reduceEq] | (with_reducible apply call (c1)); (focus simp (disch := omega) only [go_sem, Nat.reduceEqDiff, ↓reduceIte, reduceCtorEq, Nat.reduceAdd, Nat.reduceMul, Int.reduceToNat, List.reduceReplicate, Nat.reduceLeDiff, Nat.reduceLT, Int.reduceLT, Int.reduceLE, Int.reduceEq] <;> rfl) | with_reducible refine giv_intro fun _h => ?_ | with_reducible refine alt_intro ?_ fun _h => ?_ | with_reducible refine pickD_nil ?_ | (with_reducible refine brc (fun _h => ?_) fun _h => ?_) <;> first | (exfalso; omega) | simp only [decide_eq_false _h] | simp only [(_h : (_ : Bool) = _)] | simp only [decide_eq_true _h] | skip)
      all_goals rfl
    · have c2 := IsNames_ok t ht.len ht.sizes
      by_cases h3 : setB t = true
      · rw [h3] at c2
        rw [chT, if_neg (by omega), if_neg h2, if_pos h3]
        (refine fn_look s30_ok (by simp) (by intro k; simp only [go_sem, Nat.reduceEqDiff, ↓reduceIte, reduceCtorEq, Nat.reduceAdd, Nat.reduceMul, Int.reduceToNat, List.reduceReplicate, Nat.reduceLeDiff, Nat.reduceLT, Int.reduceLT, Int.reduceLE, Int.reduceEq]) fun S hS => cwp_sound _ _ _ _ ?_; simp (disch := omega) only [s30, go_sem, Nat.reduceEqDiff, ↓reduceIte, reduceCtorEq, Nat.reduceAdd, Nat.reduceMul, Int.reduceToNat, List.reduceReplicate, Nat.reduceLeDiff, Nat.reduceLT, Int.reduceLT, Int.reduceLE, Int.reduceEq])
        repeat' (first | with_reducible refine inw ?_ | simp (disch := omega) only [go_sem, Nat.reduceEqDiff, ↓reduceIte, reduceCtorEq, Nat.reduceAdd, Nat.reduceMul, Int.reduceToNat, List.reduceReplicate, Nat.reduceLeDiff, Nat.reduceLT, Int.reduceLT, Int.reduceLE, Int.reduceEq] | (with_reducible apply call (c1)); (focus simp (disch := omega) only [go_sem, Nat.reduceEqDiff, ↓reduceIte, reduceCtorEq, Nat.reduceAdd, Nat.reduceMul, Int.reduceToNat, List.reduceReplicate, Nat.reduceLeDiff, Nat.reduceLT, Int.reduceLT, Int.reduceLE, Int.reduceEq] <;> rfl) | (with_reducible apply call (c2)); (focus simp (disch := omega) only [go_sem, Nat.reduceEqDiff, ↓reduceIte, reduceCtorEq, Nat.reduceAdd, Nat.reduceMul, Int.reduceToNat, List.reduceReplicate, Nat.reduceLeDiff, Nat.reduceLT, Int.reduceLT, Int.reduceLE, Int.reduceEq] <;> rfl) | with_reducible refine giv_intro fun _h => ?_ | with_reducible refine alt_intro ?_ fun _h => ?_ | with_reducible refine pickD_nil ?_ | (with_reducible refine brc (fun _h => ?_) fun _h => ?_) <;> first | (exfalso; omega) | simp only [decide_eq_false _h] | simp only [(_h : (_ : Bool) = _)] | simp only [decide_eq_true _h] | skip)
        refine nil_row 7 51 2 (by simp (disch := omega) only [go_sem, Nat.reduceEqDiff, ↓reduceIte, reduceCtorEq, Nat.reduceAdd, Nat.reduceMul, Int.reduceToNat, List.reduceReplicate, Nat.reduceLeDiff, Nat.reduceLT, Int.reduceLT, Int.reduceLE, Int.reduceEq]) ?_
        (refine loopC hS [0, 1] (by simp only [go_sem, Nat.reduceEqDiff, ↓reduceIte, reduceCtorEq, Nat.reduceAdd, Nat.reduceMul, Int.reduceToNat, List.reduceReplicate, Nat.reduceLeDiff, Nat.reduceLT, Int.reduceLT, Int.reduceLE, Int.reduceEq]; try rfl) (fun (k : Nat) => [(7, own S 0 (chF l t k)), (8, intA k)]) (fun (k : Nat) => [rowO 51 (chF l t k)]) (fun (k : Nat) => k ≤ l.length) (fun (k : Nat) => l.length - k) (0) ?h03 ?hn3 ?rd3; case hn3 => (intro s; first | rfl | (rcases s with ⟨_, _⟩; rfl) | (rcases s with ⟨_, _, _⟩; rfl) | (rcases s with ⟨_, _, _, _⟩; rfl) | (rcases s with ⟨_, _, _, _, _⟩; rfl)))
        · simp (disch := omega) only [go_sem, Nat.reduceEqDiff, ↓reduceIte, reduceCtorEq, Nat.reduceAdd, Nat.reduceMul, Int.reduceToNat, List.reduceReplicate, Nat.reduceLeDiff, Nat.reduceLT, Int.reduceLT, Int.reduceLE, Int.reduceEq]; simp [chF]; rfl
        rintro k hk
        replace hk : k ≤ l.length := hk
        have hb := chF_len l t k
        by_cases hkl : k < l.length
        · have c3 := rIs_ok t (nth l k).1
          have hlo := v2 k hkl
          repeat' (first | with_reducible refine inw ?_ | simp (disch := omega) only [go_sem, Nat.reduceEqDiff, ↓reduceIte, reduceCtorEq, Nat.reduceAdd, Nat.reduceMul, Int.reduceToNat, List.reduceReplicate, Nat.reduceLeDiff, Nat.reduceLT, Int.reduceLT, Int.reduceLE, Int.reduceEq] | (with_reducible apply call (c3)); (focus simp (disch := omega) only [go_sem, Nat.reduceEqDiff, ↓reduceIte, reduceCtorEq, Nat.reduceAdd, Nat.reduceMul, Int.reduceToNat, List.reduceReplicate, Nat.reduceLeDiff, Nat.reduceLT, Int.reduceLT, Int.reduceLE, Int.reduceEq] <;> rfl) | with_reducible refine giv_intro fun _h => ?_ | with_reducible refine alt_intro ?_ fun _h => ?_ | with_reducible refine pickD_nil ?_ | (with_reducible refine brc (fun _h => ?_) fun _h => ?_) <;> first | (exfalso; omega) | simp only [decide_eq_false _h] | simp only [(_h : (_ : Bool) = _)] | simp only [decide_eq_true _h] | skip)
          (refine loopC hS [0, 1, 7, 8] (by simp only [go_sem, Nat.reduceEqDiff, ↓reduceIte, reduceCtorEq, Nat.reduceAdd, Nat.reduceMul, Int.reduceToNat, List.reduceReplicate, Nat.reduceLeDiff, Nat.reduceLT, Int.reduceLT, Int.reduceLE, Int.reduceEq]; try rfl) (fun (⟨ok, up⟩ : Bool × Int) => [(9, boolA ok), (10, intA up)]) (fun (⟨ok, up⟩ : Bool × Int) => [rowO 51 (chF l t k)]) (fun (⟨ok, up⟩ : Bool × Int) => -2 ≤ up ∧ up < l.length ∧ topB l t k = (ok && ancB l t up)) (fun (⟨ok, up⟩ : Bool × Int) => far l (l.length + 1) up) ((hasB (nth l k).1 t, (nth l k).2.1)) ?h04 ?hn4 ?rd4; case hn4 => (intro s; first | rfl | (rcases s with ⟨_, _⟩; rfl) | (rcases s with ⟨_, _, _⟩; rfl) | (rcases s with ⟨_, _, _, _⟩; rfl) | (rcases s with ⟨_, _, _, _, _⟩; rfl)))
          · exact ⟨⟨hlo.1, hlo.2, rfl⟩, by simp (disch := omega) only [go_sem, Nat.reduceEqDiff, ↓reduceIte, reduceCtorEq, Nat.reduceAdd, Nat.reduceMul, Int.reduceToNat, List.reduceReplicate, Nat.reduceLeDiff, Nat.reduceLT, Int.reduceLT, Int.reduceLE, Int.reduceEq]⟩
          rintro ⟨ok, up⟩ ⟨hu0, hu1, hT⟩
          replace hu0 : -2 ≤ up := hu0
          replace hu1 : up < l.length := hu1
          replace hT : topB l t k = (ok && ancB l t up) := hT
          have hst : chF l t (k + 1) = if topB l t k = true then chF l t k ++ [(nth (belowL l k) 0, nth (belowL l k) ((belowL l k).length - 1))] else chF l t k := rfl
          by_cases hn : 0 ≤ up
          · have c4 := rIs_ok t (nth l up.toNat).1
            have hh := hd_nth (l := l) hn
            have h5 := far_step v2 v3 hn hu1
            have h6 := hd_lo v2 hu1 hu0
            have h7 := hd_lt v2 hu1
            rw [ancB_step v2 v3 t hn hu1, ← Bool.and_assoc] at hT
            cases ok with
            | true =>
              rw [Bool.true_and] at hT
              repeat' (first | with_reducible refine inw ?_ | simp (disch := omega) only [go_sem, Nat.reduceEqDiff, ↓reduceIte, reduceCtorEq, Nat.reduceAdd, Nat.reduceMul, Int.reduceToNat, List.reduceReplicate, Nat.reduceLeDiff, Nat.reduceLT, Int.reduceLT, Int.reduceLE, Int.reduceEq, ← hh] | (with_reducible apply call (c4)); (focus simp (disch := omega) only [go_sem, Nat.reduceEqDiff, ↓reduceIte, reduceCtorEq, Nat.reduceAdd, Nat.reduceMul, Int.reduceToNat, List.reduceReplicate, Nat.reduceLeDiff, Nat.reduceLT, Int.reduceLT, Int.reduceLE, Int.reduceEq, ← hh] <;> rfl) | with_reducible refine giv_intro fun _h => ?_ | with_reducible refine alt_intro ?_ fun _h => ?_ | with_reducible refine pickD_nil ?_ | (with_reducible refine brc (fun _h => ?_) fun _h => ?_) <;> first | (exfalso; omega) | simp only [decide_eq_false _h] | simp only [(_h : (_ : Bool) = _)] | simp only [decide_eq_true _h] | skip)
              exact ⟨(!hasB (nth l up.toNat).1 t, hd l up), ⟨h5, h6, h7, hT⟩, rfl, rfl⟩
            | false =>
              rw [Bool.false_and] at hT
              repeat' (first | with_reducible refine inw ?_ | simp (disch := omega) only [go_sem, Nat.reduceEqDiff, ↓reduceIte, reduceCtorEq, Nat.reduceAdd, Nat.reduceMul, Int.reduceToNat, List.reduceReplicate, Nat.reduceLeDiff, Nat.reduceLT, Int.reduceLT, Int.reduceLE, Int.reduceEq, ← hh] | (with_reducible apply call (c4)); (focus simp (disch := omega) only [go_sem, Nat.reduceEqDiff, ↓reduceIte, reduceCtorEq, Nat.reduceAdd, Nat.reduceMul, Int.reduceToNat, List.reduceReplicate, Nat.reduceLeDiff, Nat.reduceLT, Int.reduceLT, Int.reduceLE, Int.reduceEq, ← hh] <;> rfl) | with_reducible refine giv_intro fun _h => ?_ | with_reducible refine alt_intro ?_ fun _h => ?_ | with_reducible refine pickD_nil ?_ | (with_reducible refine brc (fun _h => ?_) fun _h => ?_) <;> first | (exfalso; omega) | simp only [decide_eq_false _h] | simp only [(_h : (_ : Bool) = _)] | simp only [decide_eq_true _h] | skip)
              exact ⟨(false, hd l up), ⟨h5, h6, h7, hT⟩, rfl, rfl⟩
          · rw [ancB_neg l t (by omega), Bool.and_true] at hT
            cases ok with
            | true =>
              have hp := belowL_pos (l := l) (i := k) (by omega) (by omega)
              have hm : (belowL l k).length ≤ 200 := by have := belowF_len l k l.length; unfold belowL; omega
              have c5 := rBelow_ok l v2 v1 k
              rw [if_pos hT] at hst
              generalize belowL l k = b at *
              have e1 : ((b.length : Int) - 1) = ((b.length - 1 : Nat) : Int) := by omega
              have e2 := head_cells hp
              rw [List.drop_zero] at e2
              repeat' (first | with_reducible refine inw ?_ | simp (disch := omega) only [go_sem, Nat.reduceEqDiff, ↓reduceIte, reduceCtorEq, Nat.reduceAdd, Nat.reduceMul, Int.reduceToNat, List.reduceReplicate, Nat.reduceLeDiff, Nat.reduceLT, Int.reduceLT, Int.reduceLE, Int.reduceEq, e1, e2, cat_pp, z2_int, src_two] | (with_reducible apply call (c5)); (focus simp (disch := omega) only [go_sem, Nat.reduceEqDiff, ↓reduceIte, reduceCtorEq, Nat.reduceAdd, Nat.reduceMul, Int.reduceToNat, List.reduceReplicate, Nat.reduceLeDiff, Nat.reduceLT, Int.reduceLT, Int.reduceLE, Int.reduceEq, e1, e2, cat_pp, z2_int, src_two] <;> rfl) | with_reducible refine giv_intro fun _h => ?_ | with_reducible refine alt_intro ?_ fun _h => ?_ | with_reducible refine pickD_nil ?_ | (with_reducible refine brc (fun _h => ?_) fun _h => ?_) <;> first | (exfalso; omega) | simp only [decide_eq_false _h] | simp only [(_h : (_ : Bool) = _)] | simp only [decide_eq_true _h] | skip)
              exact ⟨k + 1, ⟨by omega, by omega⟩, ⟨⟨by rw [hst]; simp, by rw [hst]; simp⟩, by omega⟩, by rw [hst]⟩
            | false =>
              rw [if_neg (by rw [hT]; simp)] at hst
              repeat' (first | with_reducible refine inw ?_ | simp (disch := omega) only [go_sem, Nat.reduceEqDiff, ↓reduceIte, reduceCtorEq, Nat.reduceAdd, Nat.reduceMul, Int.reduceToNat, List.reduceReplicate, Nat.reduceLeDiff, Nat.reduceLT, Int.reduceLT, Int.reduceLE, Int.reduceEq] | with_reducible refine giv_intro fun _h => ?_ | with_reducible refine alt_intro ?_ fun _h => ?_ | with_reducible refine pickD_nil ?_ | (with_reducible refine brc (fun _h => ?_) fun _h => ?_) <;> first | (exfalso; omega) | simp only [decide_eq_false _h] | simp only [(_h : (_ : Bool) = _)] | simp only [decide_eq_true _h] | skip)
              exact ⟨k + 1, ⟨by omega, by omega⟩, ⟨⟨by rw [hst], by rw [hst]⟩, by omega⟩, by rw [hst]⟩
        · have hkk : k = l.length := by omega
          subst hkk
          repeat' (first | with_reducible refine inw ?_ | simp (disch := omega) only [go_sem, Nat.reduceEqDiff, ↓reduceIte, reduceCtorEq, Nat.reduceAdd, Nat.reduceMul, Int.reduceToNat, List.reduceReplicate, Nat.reduceLeDiff, Nat.reduceLT, Int.reduceLT, Int.reduceLE, Int.reduceEq] | with_reducible refine giv_intro fun _h => ?_ | with_reducible refine alt_intro ?_ fun _h => ?_ | with_reducible refine pickD_nil ?_ | (with_reducible refine brc (fun _h => ?_) fun _h => ?_) <;> first | (exfalso; omega) | simp only [decide_eq_false _h] | simp only [(_h : (_ : Bool) = _)] | simp only [decide_eq_true _h] | skip)
      · rw [chT, if_neg (by omega), if_neg h2, if_neg h3]
        rw [show setB t = false by simpa using h3] at c2
        (refine fn_look s30_ok (by simp) (by intro k; simp only [go_sem, Nat.reduceEqDiff, ↓reduceIte, reduceCtorEq, Nat.reduceAdd, Nat.reduceMul, Int.reduceToNat, List.reduceReplicate, Nat.reduceLeDiff, Nat.reduceLT, Int.reduceLT, Int.reduceLE, Int.reduceEq]) fun S hS => cwp_sound _ _ _ _ ?_; simp (disch := omega) only [s30, go_sem, Nat.reduceEqDiff, ↓reduceIte, reduceCtorEq, Nat.reduceAdd, Nat.reduceMul, Int.reduceToNat, List.reduceReplicate, Nat.reduceLeDiff, Nat.reduceLT, Int.reduceLT, Int.reduceLE, Int.reduceEq])
        repeat' (first | with_reducible refine inw ?_ | simp (disch := omega) only [go_sem, Nat.reduceEqDiff, ↓reduceIte, reduceCtorEq, Nat.reduceAdd, Nat.reduceMul, Int.reduceToNat, List.reduceReplicate, Nat.reduceLeDiff, Nat.reduceLT, Int.reduceLT, Int.reduceLE, Int.reduceEq] | (with_reducible apply call (c1)); (focus simp (disch := omega) only [go_sem, Nat.reduceEqDiff, ↓reduceIte, reduceCtorEq, Nat.reduceAdd, Nat.reduceMul, Int.reduceToNat, List.reduceReplicate, Nat.reduceLeDiff, Nat.reduceLT, Int.reduceLT, Int.reduceLE, Int.reduceEq] <;> rfl) | (with_reducible apply call (c2)); (focus simp (disch := omega) only [go_sem, Nat.reduceEqDiff, ↓reduceIte, reduceCtorEq, Nat.reduceAdd, Nat.reduceMul, Int.reduceToNat, List.reduceReplicate, Nat.reduceLeDiff, Nat.reduceLT, Int.reduceLT, Int.reduceLE, Int.reduceEq] <;> rfl) | with_reducible refine giv_intro fun _h => ?_ | with_reducible refine alt_intro ?_ fun _h => ?_ | with_reducible refine pickD_nil ?_ | (with_reducible refine brc (fun _h => ?_) fun _h => ?_) <;> first | (exfalso; omega) | simp only [decide_eq_false _h] | simp only [(_h : (_ : Bool) = _)] | simp only [decide_eq_true _h] | skip)
        all_goals rfl
  · rw [chT, if_pos h1]
    (refine fn_look s30_ok (by simp) (by intro k; simp only [go_sem, Nat.reduceEqDiff, ↓reduceIte, reduceCtorEq, Nat.reduceAdd, Nat.reduceMul, Int.reduceToNat, List.reduceReplicate, Nat.reduceLeDiff, Nat.reduceLT, Int.reduceLT, Int.reduceLE, Int.reduceEq]) fun S hS => cwp_sound _ _ _ _ ?_; simp (disch := omega) only [s30, go_sem, Nat.reduceEqDiff, ↓reduceIte, reduceCtorEq, Nat.reduceAdd, Nat.reduceMul, Int.reduceToNat, List.reduceReplicate, Nat.reduceLeDiff, Nat.reduceLT, Int.reduceLT, Int.reduceLE, Int.reduceEq])
    repeat' (first | with_reducible refine inw ?_ | simp (disch := omega) only [go_sem, Nat.reduceEqDiff, ↓reduceIte, reduceCtorEq, Nat.reduceAdd, Nat.reduceMul, Int.reduceToNat, List.reduceReplicate, Nat.reduceLeDiff, Nat.reduceLT, Int.reduceLT, Int.reduceLE, Int.reduceEq] | (with_reducible apply call (c1)); (focus simp (disch := omega) only [go_sem, Nat.reduceEqDiff, ↓reduceIte, reduceCtorEq, Nat.reduceAdd, Nat.reduceMul, Int.reduceToNat, List.reduceReplicate, Nat.reduceLeDiff, Nat.reduceLT, Int.reduceLT, Int.reduceLE, Int.reduceEq] <;> rfl) | with_reducible refine giv_intro fun _h => ?_ | with_reducible refine alt_intro ?_ fun _h => ?_ | with_reducible refine pickD_nil ?_ | (with_reducible refine brc (fun _h => ?_) fun _h => ?_) <;> first | (exfalso; omega) | simp only [decide_eq_false _h] | simp only [(_h : (_ : Bool) = _)] | simp only [decide_eq_true _h] | skip)
    all_goals rfl
/-- ablaut/ablautlaw21.DependBelows: 3 parameters, 0 captured -/
def s7 : SC := .seq (.reg [o1 6 (.mv (cB false))])
  (.seq (.seq (.reg [o1 22 (.mv (.t 0)),
     o1 23 (.call (.f 12) [(.t 22)]),
     o1 24 (.mv (.t 23)),
     oF 25 (.mv (.t 2)) 24,
     oF 26 (.call (.f 24) [(.t 25)]) 24,
     oF 27 (.bin .gtr (.t 26) (cI 100000)) 24,
     o1 28 (.pick (.t 24) (cB true) (.t 27))])
    (.cond (.t 28) (.seq (.reg [o1 29 (.call (.f 14) []),
       o1 6 (.mv (.t 29))])
      (.ret)) (.skip)))
   (.seq (.reg [o1 31 (.mv (.t 0)),
     o1 32 (.mv (.t 1)),
     o1 33 (.call (.f 25) [(.t 31), (.t 32)]),
     o1 30 (.mv (.t 33)),
     o1 34 (.ext (.t 30) 0),
     o1 35 (.ext (.t 30) 1),
     o1 7 (.mv (.t 34)),
     o1 8 (.mv (.t 35))])
    (.seq (.reg [o1 37 (.mv (.t 0)),
      o1 38 (.mv (.t 1)),
      o1 39 (.call (.f 26) [(.t 37), (.t 38)]),
      o1 36 (.mv (.t 39)),
      o1 40 (.ext (.t 36) 0),
      o1 41 (.ext (.t 36) 1),
      o1 9 (.mv (.t 40)),
      o1 10 (.mv (.t 41))])
     (.seq (.reg [o1 43 (.mv (.t 0)),
       o1 44 (.mv (.t 1)),
       o1 45 (.call (.f 27) [(.t 43), (.t 44)]),
       o1 42 (.mv (.t 45)),
       o1 46 (.ext (.t 42) 0),
       o1 47 (.ext (.t 42) 1),
       o1 48 (.ext (.t 42) 2),
       o1 11 (.mv (.t 46)),
       o1 12 (.mv (.t 47)),
       o1 13 (.mv (.t 48))])
      (.seq (.reg [o1 50 (.mv (.t 0)),
        o1 51 (.mv (.t 1)),
        o1 52 (.call (.f 28) [(.t 50), (.t 51)]),
        o1 49 (.mv (.t 52)),
        o1 53 (.ext (.t 49) 0),
        o1 54 (.ext (.t 49) 1),
        o1 55 (.ext (.t 49) 2),
        o1 14 (.mv (.t 53)),
        o1 15 (.mv (.t 54)),
        o1 16 (.mv (.t 55))])
       (.seq (.seq (.reg [o1 56 (.mv (.t 7)),
          o1 57 (.mv (.t 9)),
          o1 58 (.call (.f 23) [(.t 56), (.t 57)]),
          o1 59 (.un .not (.t 58)),
          o1 60 (.mv (.t 59)),
          oF 61 (.mv (.t 8)) 60,
          oF 62 (.mv (.t 10)) 60,
          oF 63 (.bin .neq (.t 61) (.t 62)) 60,
          o1 64 (.pick (.t 60) (cB true) (.t 63)),
          o1 65 (.mv (.t 64)),
          oF 66 (.mv (.t 11)) 65,
          oF 67 (.mv (.t 14)) 65,
          oF 68 (.bin .neq (.t 66) (.t 67)) 65,
          o1 69 (.pick (.t 65) (cB true) (.t 68)),
          o1 70 (.mv (.t 69)),
          oF 71 (.mv (.t 12)) 70,
          oF 72 (.mv (.t 15)) 70,
          oF 73 (.bin .neq (.t 71) (.t 72)) 70,
          o1 74 (.pick (.t 70) (cB true) (.t 73)),
          o1 75 (.mv (.t 74)),
          oF 76 (.mv (.t 13)) 75,
          oF 77 (.mv (.t 16)) 75,
          oF 78 (.bin .neq (.t 76) (.t 77)) 75,
          o1 79 (.pick (.t 75) (cB true) (.t 78))])
         (.cond (.t 79) (.seq (.reg [o1 6 (.mv (cB false))])
           (.ret)) (.skip)))
        (.seq (.reg [o1 81 (.mv (.t 0)),
          o1 82 (.mv (.t 2)),
          o1 83 (.call (.f 29) [(.t 81), (.t 82)]),
          o1 80 (.mv (.t 83)),
          o1 84 (.ext (.t 80) 0),
          o1 85 (.ext (.t 80) 1),
          o1 17 (.mv (.t 84)),
          o1 18 (.mv (.t 85))])
         (.seq (.reg [o1 87 (.mv (.t 0)),
           o1 88 (.mv (.t 2)),
           o1 89 (.call (.f 30) [(.t 87), (.t 88)]),
           o1 86 (.mv (.t 89)),
           o1 90 (.ext (.t 86) 0),
           o1 91 (.ext (.t 86) 1),
           o1 19 (.mv (.t 90)),
           o1 20 (.mv (.t 91))])
          (.seq (.seq (.reg [o1 92 (.mv (.t 17)),
             o1 93 (.lenL (.t 92)),
             o1 94 (.mv (.t 19)),
             o1 95 (.lenL (.t 94)),
             o1 96 (.bin .neq (.t 93) (.t 95)),
             o1 97 (.mv (.t 96)),
             oF 98 (.mv (.t 18)) 97,
             oF 99 (.mv (.t 20)) 97,
             oF 100 (.bin .neq (.t 98) (.t 99)) 97,
             o1 101 (.pick (.t 97) (cB true) (.t 100))])
            (.cond (.t 101) (.seq (.reg [o1 6 (.mv (cB false))])
              (.ret)) (.skip)))
           (.seq (.seq (.reg [o1 21 (.mv (cI 0))])
             (.block 0 (.loop (.seq (.seq (.reg [o1 102 (.mv (.t 21)),
                  o1 103 (.mv (.t 17)),
                  o1 104 (.lenL (.t 103)),
                  o1 105 (.bin .lss (.t 102) (.t 104))])
                 (.cond (.t 105) (.skip) (.exit 0)))
                (.seq (.block 1 (.seq (.regD [o1 108 (.mv (.t 17)),
                    o1 109 (.mv (.t 21)),
                    o1 110 (.iaddr 2 (.t 108) (.t 109)),
                    o1 111 (.load (some 2) (.t 110)),
                    o1 112 (.mv (.t 19)),
                    o1 113 (.mv (.t 21)),
                    o1 114 (.iaddr 2 (.t 112) (.t 113)),
                    o1 115 (.load (some 2) (.t 114)),
                    o1 116 (.eqS true [((.int .i64), 0), ((.int .i64), 1)] (.t 111) (.t 115))])
                   (.cond (.t 116) (.seq (.reg [o1 6 (.mv (cB false))])
                     (.ret)) (.skip))))
                 (.reg [o1 106 (.mv (.t 21)),
                  o1 107 (.bin .add (.t 106) (cI 1)),
                  o1 21 (.mv (.t 107))]))))))
            (.seq (.reg [o1 117 (.call (.f 14) []),
              o1 6 (.mv (.t 117))])
             (.ret))))))))))))
theorem s7_ok : lookF Try.prog 7 = some (s7, 118, [.tmp 6]) := by kernel_rfl
set_option maxHeartbeats 1000000 in
theorem DependBelows_ok (l : List Hung) (i : Int) (t : List Str) (hl : TH l) (ht : TS t) : Fn P 7 [sl l, intA i, sl t] (boolA true) := by
  have ct := texts_ok t
  by_cases h1 : overB l = false
  · by_cases h2 : textN t ≤ 100000
    · have hs := over_sm hl h1
      have hst := (textN_le ht).2.2 h2
      have k1 := hBelow_ok l hs i
      have k2 := rBelowT_ok l hs i
      have k3 := hSpan_ok l hs i
      have k4 := rSpan_ok l hs i
      have k5 := chunks_ok l hs t hst
      have k6 := rChunks_ok l hs t hst
      have k0 := over_ok l
      rw [h1] at k0
      have hpl : (chT l t).1.length ≤ 100000 := by
        have hb := chF_len l t l.length
        have := hs.1
        unfold chT; (repeat' split) <;> simp <;> omega
      generalize belT l i = b at *
      generalize spanT l i = s at *
      generalize chT l t = c at *
      obtain ⟨c, e⟩ := c
      dsimp only at hpl k5 k6
      (refine fn_look s7_ok (by simp) (by intro k; simp only [go_sem, Nat.reduceEqDiff, ↓reduceIte, reduceCtorEq, Nat.reduceAdd, Nat.reduceMul, Int.reduceToNat, List.reduceReplicate, Nat.reduceLeDiff, Nat.reduceLT, Int.reduceLT, Int.reduceLE, Int.reduceEq]) fun S hS => cwp_sound _ _ _ _ ?_; simp (disch := omega) only [s7, go_sem, Nat.reduceEqDiff, ↓reduceIte, reduceCtorEq, Nat.reduceAdd, Nat.reduceMul, Int.reduceToNat, List.reduceReplicate, Nat.reduceLeDiff, Nat.reduceLT, Int.reduceLT, Int.reduceLE, Int.reduceEq])
      repeat' (first | with_reducible refine inw ?_ | simp (disch := omega) only [go_sem, Nat.reduceEqDiff, ↓reduceIte, reduceCtorEq, Nat.reduceAdd, Nat.reduceMul, Int.reduceToNat, List.reduceReplicate, Nat.reduceLeDiff, Nat.reduceLT, Int.reduceLT, Int.reduceLE, Int.reduceEq] | (with_reducible apply call (k0)); (focus simp (disch := omega) only [go_sem, Nat.reduceEqDiff, ↓reduceIte, reduceCtorEq, Nat.reduceAdd, Nat.reduceMul, Int.reduceToNat, List.reduceReplicate, Nat.reduceLeDiff, Nat.reduceLT, Int.reduceLT, Int.reduceLE, Int.reduceEq] <;> rfl) | (with_reducible apply call (ct)); (focus simp (disch := omega) only [go_sem, Nat.reduceEqDiff, ↓reduceIte, reduceCtorEq, Nat.reduceAdd, Nat.reduceMul, Int.reduceToNat, List.reduceReplicate, Nat.reduceLeDiff, Nat.reduceLT, Int.reduceLT, Int.reduceLE, Int.reduceEq] <;> rfl) | (with_reducible apply call (k1)); (focus simp (disch := omega) only [go_sem, Nat.reduceEqDiff, ↓reduceIte, reduceCtorEq, Nat.reduceAdd, Nat.reduceMul, Int.reduceToNat, List.reduceReplicate, Nat.reduceLeDiff, Nat.reduceLT, Int.reduceLT, Int.reduceLE, Int.reduceEq] <;> rfl) | (with_reducible apply call (k2)); (focus simp (disch := omega) only [go_sem, Nat.reduceEqDiff, ↓reduceIte, reduceCtorEq, Nat.reduceAdd, Nat.reduceMul, Int.reduceToNat, List.reduceReplicate, Nat.reduceLeDiff, Nat.reduceLT, Int.reduceLT, Int.reduceLE, Int.reduceEq] <;> rfl) | (with_reducible apply call (k3)); (focus simp (disch := omega) only [go_sem, Nat.reduceEqDiff, ↓reduceIte, reduceCtorEq, Nat.reduceAdd, Nat.reduceMul, Int.reduceToNat, List.reduceReplicate, Nat.reduceLeDiff, Nat.reduceLT, Int.reduceLT, Int.reduceLE, Int.reduceEq] <;> rfl) | (with_reducible apply call (k4)); (focus simp (disch := omega) only [go_sem, Nat.reduceEqDiff, ↓reduceIte, reduceCtorEq, Nat.reduceAdd, Nat.reduceMul, Int.reduceToNat, List.reduceReplicate, Nat.reduceLeDiff, Nat.reduceLT, Int.reduceLT, Int.reduceLE, Int.reduceEq] <;> rfl) | (with_reducible apply call (k5)); (focus simp (disch := omega) only [go_sem, Nat.reduceEqDiff, ↓reduceIte, reduceCtorEq, Nat.reduceAdd, Nat.reduceMul, Int.reduceToNat, List.reduceReplicate, Nat.reduceLeDiff, Nat.reduceLT, Int.reduceLT, Int.reduceLE, Int.reduceEq] <;> rfl) | (with_reducible apply call (k6)); (focus simp (disch := omega) only [go_sem, Nat.reduceEqDiff, ↓reduceIte, reduceCtorEq, Nat.reduceAdd, Nat.reduceMul, Int.reduceToNat, List.reduceReplicate, Nat.reduceLeDiff, Nat.reduceLT, Int.reduceLT, Int.reduceLE, Int.reduceEq] <;> rfl) | (with_reducible apply call (sameInts_ok _ _)); (focus simp (disch := omega) only [go_sem, Nat.reduceEqDiff, ↓reduceIte, reduceCtorEq, Nat.reduceAdd, Nat.reduceMul, Int.reduceToNat, List.reduceReplicate, Nat.reduceLeDiff, Nat.reduceLT, Int.reduceLT, Int.reduceLE, Int.reduceEq] <;> rfl) | (with_reducible apply call (known_ok)); (focus simp (disch := omega) only [go_sem, Nat.reduceEqDiff, ↓reduceIte, reduceCtorEq, Nat.reduceAdd, Nat.reduceMul, Int.reduceToNat, List.reduceReplicate, Nat.reduceLeDiff, Nat.reduceLT, Int.reduceLT, Int.reduceLE, Int.reduceEq] <;> rfl) | with_reducible refine giv_intro fun _h => ?_ | with_reducible refine alt_intro ?_ fun _h => ?_ | with_reducible refine pickD_nil ?_ | (with_reducible refine brc (fun _h => ?_) fun _h => ?_) <;> first | (exfalso; omega) | simp only [decide_eq_false _h] | simp only [(_h : (_ : Bool) = _)] | simp only [decide_eq_true _h] | skip)
      (refine loopC hS [17, 19] (by simp only [go_sem, Nat.reduceEqDiff, ↓reduceIte, reduceCtorEq, Nat.reduceAdd, Nat.reduceMul, Int.reduceToNat, List.reduceReplicate, Nat.reduceLeDiff, Nat.reduceLT, Int.reduceLT, Int.reduceLE, Int.reduceEq]; try rfl) (fun (n : Nat) => [(21, intA n)]) (fun (n : Nat) => []) (fun (n : Nat) => n ≤ c.length) (fun (n : Nat) => c.length - n) (0) ?h05 ?hn5 ?rd5; case hn5 => (intro s; first | rfl | (rcases s with ⟨_, _⟩; rfl) | (rcases s with ⟨_, _, _⟩; rfl) | (rcases s with ⟨_, _, _, _⟩; rfl) | (rcases s with ⟨_, _, _, _, _⟩; rfl)))
      · simp (disch := omega) only [go_sem, Nat.reduceEqDiff, ↓reduceIte, reduceCtorEq, Nat.reduceAdd, Nat.reduceMul, Int.reduceToNat, List.reduceReplicate, Nat.reduceLeDiff, Nat.reduceLT, Int.reduceLT, Int.reduceLE, Int.reduceEq]; simp
      rintro n hn
      replace hn : n ≤ c.length := hn
      by_cases hnl : n < c.length
      · repeat' (first | with_reducible refine inw ?_ | simp (disch := omega) only [go_sem, Nat.reduceEqDiff, ↓reduceIte, reduceCtorEq, Nat.reduceAdd, Nat.reduceMul, Int.reduceToNat, List.reduceReplicate, Nat.reduceLeDiff, Nat.reduceLT, Int.reduceLT, Int.reduceLE, Int.reduceEq] | with_reducible refine giv_intro fun _h => ?_ | with_reducible refine alt_intro ?_ fun _h => ?_ | with_reducible refine pickD_nil ?_ | (with_reducible refine brc (fun _h => ?_) fun _h => ?_) <;> first | (exfalso; omega) | simp only [decide_eq_false _h] | simp only [(_h : (_ : Bool) = _)] | simp only [decide_eq_true _h] | skip)
        exact ⟨n + 1, ⟨by omega, by omega⟩, by omega⟩
      · repeat' (first | with_reducible refine inw ?_ | simp (disch := omega) only [go_sem, Nat.reduceEqDiff, ↓reduceIte, reduceCtorEq, Nat.reduceAdd, Nat.reduceMul, Int.reduceToNat, List.reduceReplicate, Nat.reduceLeDiff, Nat.reduceLT, Int.reduceLT, Int.reduceLE, Int.reduceEq] | (with_reducible apply call (known_ok)); (focus simp (disch := omega) only [go_sem, Nat.reduceEqDiff, ↓reduceIte, reduceCtorEq, Nat.reduceAdd, Nat.reduceMul, Int.reduceToNat, List.reduceReplicate, Nat.reduceLeDiff, Nat.reduceLT, Int.reduceLT, Int.reduceLE, Int.reduceEq] <;> rfl) | with_reducible refine giv_intro fun _h => ?_ | with_reducible refine alt_intro ?_ fun _h => ?_ | with_reducible refine pickD_nil ?_ | (with_reducible refine brc (fun _h => ?_) fun _h => ?_) <;> first | (exfalso; omega) | simp only [decide_eq_false _h] | simp only [(_h : (_ : Bool) = _)] | simp only [decide_eq_true _h] | skip)
    · have k0 := over_ok l
      rw [h1] at k0
      (refine fn_look s7_ok (by simp) (by intro k; simp only [go_sem, Nat.reduceEqDiff, ↓reduceIte, reduceCtorEq, Nat.reduceAdd, Nat.reduceMul, Int.reduceToNat, List.reduceReplicate, Nat.reduceLeDiff, Nat.reduceLT, Int.reduceLT, Int.reduceLE, Int.reduceEq]) fun S hS => cwp_sound _ _ _ _ ?_; simp (disch := omega) only [s7, go_sem, Nat.reduceEqDiff, ↓reduceIte, reduceCtorEq, Nat.reduceAdd, Nat.reduceMul, Int.reduceToNat, List.reduceReplicate, Nat.reduceLeDiff, Nat.reduceLT, Int.reduceLT, Int.reduceLE, Int.reduceEq])
      repeat' (first | with_reducible refine inw ?_ | simp (disch := omega) only [go_sem, Nat.reduceEqDiff, ↓reduceIte, reduceCtorEq, Nat.reduceAdd, Nat.reduceMul, Int.reduceToNat, List.reduceReplicate, Nat.reduceLeDiff, Nat.reduceLT, Int.reduceLT, Int.reduceLE, Int.reduceEq] | (with_reducible apply call (k0)); (focus simp (disch := omega) only [go_sem, Nat.reduceEqDiff, ↓reduceIte, reduceCtorEq, Nat.reduceAdd, Nat.reduceMul, Int.reduceToNat, List.reduceReplicate, Nat.reduceLeDiff, Nat.reduceLT, Int.reduceLT, Int.reduceLE, Int.reduceEq] <;> rfl) | (with_reducible apply call (ct)); (focus simp (disch := omega) only [go_sem, Nat.reduceEqDiff, ↓reduceIte, reduceCtorEq, Nat.reduceAdd, Nat.reduceMul, Int.reduceToNat, List.reduceReplicate, Nat.reduceLeDiff, Nat.reduceLT, Int.reduceLT, Int.reduceLE, Int.reduceEq] <;> rfl) | (with_reducible apply call (known_ok)); (focus simp (disch := omega) only [go_sem, Nat.reduceEqDiff, ↓reduceIte, reduceCtorEq, Nat.reduceAdd, Nat.reduceMul, Int.reduceToNat, List.reduceReplicate, Nat.reduceLeDiff, Nat.reduceLT, Int.reduceLT, Int.reduceLE, Int.reduceEq] <;> rfl) | with_reducible refine giv_intro fun _h => ?_ | with_reducible refine alt_intro ?_ fun _h => ?_ | with_reducible refine pickD_nil ?_ | (with_reducible refine brc (fun _h => ?_) fun _h => ?_) <;> first | (exfalso; omega) | simp only [decide_eq_false _h] | simp only [(_h : (_ : Bool) = _)] | simp only [decide_eq_true _h] | skip)
  · have k0 := over_ok l
    rw [show overB l = true by simpa using h1] at k0
    (refine fn_look s7_ok (by simp) (by intro k; simp only [go_sem, Nat.reduceEqDiff, ↓reduceIte, reduceCtorEq, Nat.reduceAdd, Nat.reduceMul, Int.reduceToNat, List.reduceReplicate, Nat.reduceLeDiff, Nat.reduceLT, Int.reduceLT, Int.reduceLE, Int.reduceEq]) fun S hS => cwp_sound _ _ _ _ ?_; simp (disch := omega) only [s7, go_sem, Nat.reduceEqDiff, ↓reduceIte, reduceCtorEq, Nat.reduceAdd, Nat.reduceMul, Int.reduceToNat, List.reduceReplicate, Nat.reduceLeDiff, Nat.reduceLT, Int.reduceLT, Int.reduceLE, Int.reduceEq])
    repeat' (first | with_reducible refine inw ?_ | simp (disch := omega) only [go_sem, Nat.reduceEqDiff, ↓reduceIte, reduceCtorEq, Nat.reduceAdd, Nat.reduceMul, Int.reduceToNat, List.reduceReplicate, Nat.reduceLeDiff, Nat.reduceLT, Int.reduceLT, Int.reduceLE, Int.reduceEq] | (with_reducible apply call (k0)); (focus simp (disch := omega) only [go_sem, Nat.reduceEqDiff, ↓reduceIte, reduceCtorEq, Nat.reduceAdd, Nat.reduceMul, Int.reduceToNat, List.reduceReplicate, Nat.reduceLeDiff, Nat.reduceLT, Int.reduceLT, Int.reduceLE, Int.reduceEq] <;> rfl) | (with_reducible apply call (ct)); (focus simp (disch := omega) only [go_sem, Nat.reduceEqDiff, ↓reduceIte, reduceCtorEq, Nat.reduceAdd, Nat.reduceMul, Int.reduceToNat, List.reduceReplicate, Nat.reduceLeDiff, Nat.reduceLT, Int.reduceLT, Int.reduceLE, Int.reduceEq] <;> rfl) | (with_reducible apply call (known_ok)); (focus simp (disch := omega) only [go_sem, Nat.reduceEqDiff, ↓reduceIte, reduceCtorEq, Nat.reduceAdd, Nat.reduceMul, Int.reduceToNat, List.reduceReplicate, Nat.reduceLeDiff, Nat.reduceLT, Int.reduceLT, Int.reduceLE, Int.reduceEq] <;> rfl) | with_reducible refine giv_intro fun _h => ?_ | with_reducible refine alt_intro ?_ fun _h => ?_ | with_reducible refine pickD_nil ?_ | (with_reducible refine brc (fun _h => ?_) fun _h => ?_) <;> first | (exfalso; omega) | simp only [decide_eq_false _h] | simp only [(_h : (_ : Bool) = _)] | simp only [decide_eq_true _h] | skip)
end Go.Proofs.Ytkedbkdbnmmkhaa.Ev

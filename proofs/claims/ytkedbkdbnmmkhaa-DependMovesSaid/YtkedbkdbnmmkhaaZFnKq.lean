/- The moves that the program makes: the law DependMoves. -/
import Derived.Test.YtkedbkdbnmmkhaaZFnKp
set_option linter.unusedVariables false
set_option linter.unusedSimpArgs false
namespace Go.Proofs.Ytkedbkdbnmmkhaa.Ev
open Go Go.Proofs

/-- How many nodes that hang on a are not gone, of the first n. -/
def cntG (l : List Hung) (g : List Bool) (a : Int) : Nat → Nat
  | 0 => 0
  | n + 1 => cntG l g a n + (if (nth l n).2.1 = a ∧ nth g n = false then 1 else 0)
theorem cntG_le (l : List Hung) (g : List Bool) (a : Int) : ∀ n, cntG l g a n ≤ n
  | 0 => Nat.le_refl _
  | n + 1 => by have := cntG_le l g a n; rw [cntG]; split <;> omega
theorem cntG_zero (l : List Hung) (g : List Bool) (a : Int) : ∀ n, cntG l g a n = 0 ↔ ∀ k, k < n → ¬((nth l k).2.1 = a ∧ nth g k = false)
  | 0 => by simp [cntG]
  | n + 1 => by
    rw [cntG]
    constructor
    · intro h k hk
      split at h
      · omega
      · rename_i hn
        by_cases e : k = n
        · rw [e]; exact hn
        · exact (cntG_zero l g a n).1 (by omega) k (by omega)
    · intro h
      rw [(cntG_zero l g a n).2 fun k hk => h k (by omega), if_neg (h n (by omega))]
theorem cntG_put (l : List Hung) {g : List Bool} {p : Nat} (hp : p < g.length) (h0 : nth g p = false) (a : Int) : ∀ n, cntG l (putAt g p true) a n + (if p < n ∧ (nth l p).2.1 = a then 1 else 0) = cntG l g a n
  | 0 => by rw [if_neg (by omega)]; rfl
  | n + 1 => by
    have ih := cntG_put l hp h0 a n
    rw [cntG, cntG, nth_put hp]
    by_cases e : n = p
    · subst e
      rw [if_neg (by omega)] at ih
      rw [if_pos rfl, h0]
      by_cases e2 : (nth l n).2.1 = a
      · rw [if_neg (by simp), if_pos ⟨by omega, e2⟩, if_pos ⟨e2, rfl⟩]; omega
      · rw [if_neg (by simp), if_neg (by simp [e2]), if_neg (by simp [e2])]; omega
    · rw [if_neg e]
      by_cases e2 : p < n ∧ (nth l p).2.1 = a
      · rw [if_pos e2] at ih
        rw [if_pos (show p < n + 1 ∧ (nth l p).2.1 = a from ⟨by omega, e2.2⟩)]; omega
      · rw [if_neg e2] at ih
        rw [if_neg (show ¬(p < n + 1 ∧ (nth l p).2.1 = a) from fun q => e2 ⟨by omega, q.2⟩)]; omega
theorem freeB_cnt (l : List Hung) (g : List Bool) (a : Int) : freeB l g a = decide (cntG l g a l.length = 0) := by
  rw [freeB, decide_eq_decide, cntG_zero]
def CntI (l : List Hung) (g : List Bool) (cn : List Int) : Prop := cn.length = l.length ∧ ∀ a : Nat, a < l.length → nth cn a = (cntG l g a l.length : Nat)
theorem cntI_put {l : List Hung} {g : List Bool} {cn : List Int} (hg : g.length = l.length) (h : CntI l g cn) {p b : Nat} (hp : p < l.length) (h0 : nth g p = false) (hb : b < l.length) (he : (nth l p).2.1 = b) :
    0 < nth cn b ∧ nth cn b ≤ l.length ∧ CntI l (putAt g p true) (putAt cn b (nth cn b - 1)) := by
  have key := fun a : Int => cntG_put l (g := g) (p := p) (by omega) h0 a l.length
  have hb2 := h.2 b hb
  have kb := key b
  have hle := cntG_le l g b l.length
  rw [if_pos ⟨hp, he⟩] at kb
  refine ⟨by omega, by omega, by rw [putAt_len (by rw [h.1]; exact hb)]; exact h.1, fun a ha => ?_⟩
  rw [nth_put (by rw [h.1]; exact hb)]
  have ka := key a
  split
  · rename_i e; subst e; omega
  · rename_i e
    rw [if_neg (by rw [he]; omega)] at ka
    rw [h.2 a ha]; omega
/-- ablaut/depend.Moves: 1 parameters, 0 captured -/
def s33 : SC := .seq (.reg [o1 2 (.mv (.c (.slice none 0 0))),
   o1 3 (.mv (cB false)),
   o1 4 (.mv (cI 0))])
  (.seq (.seq (.reg [o1 15 (.mv (.t 0)),
     o1 16 (.call (.f 37) [(.t 15)]),
     o1 5 (.mv (.t 16))])
    (.seq (.reg [o1 17 (.mv (.t 5)),
      o1 18 (.bin .neq (.t 17) (cI 0))])
     (.cond (.t 18) (.seq (.reg [o1 19 (.mv (.t 5)),
        o1 2 (.mv (.c (.slice none 0 0))),
        o1 3 (.mv (cB false)),
        o1 4 (.mv (.t 19))])
       (.ret)) (.skip))))
   (.seq (.seq (.reg [o1 20 (.mv (.t 0)),
      o1 21 (.call (.f 52) [(.t 20)]),
      o1 22 (.un .not (.t 21)),
      o1 23 (.mv (.t 22)),
      oF 24 (.mv (.t 0)) 23,
      oF 25 (.call (.f 62) [(.t 24)]) 23,
      oF 26 (.un .not (.t 25)) 23,
      o1 27 (.pick (.t 23) (cB true) (.t 26))])
     (.cond (.t 27) (.seq (.reg [o1 2 (.mv (.c (.slice none 0 0))),
        o1 3 (.mv (cB false)),
        o1 4 (.mv (cI 0))])
       (.ret)) (.skip)))
    (.seq (.reg [o1 28 (.mv (.t 0)),
      o1 29 (.lenL (.t 28)),
      o1 30 (.mksl 3 1 8 [(.int .i64 0)] (.t 29) (.t 29)),
      o1 6 (.mv (.t 30))])
     (.seq (.seq (.reg [o1 31 (.mv (.t 0)),
        o1 32 (.lenL (.t 31)),
        o1 33 (.mv (cI 0))])
       (.block 0 (.loop (.seq (.reg [o1 34 (.bin .lss (.t 33) (.t 32))])
          (.seq (.cond (.t 34) (.skip) (.exit 0))
           (.seq (.block 1 (.seq (.reg [o1 35 (.iaddr 3 (.t 31) (.t 33)),
               o1 36 (.load (some 3) (.t 35)),
               o1 8 (.alloc 34 3 [(.slice none 0 0), (.int .i64 0), (.string ⟨#[]⟩)]),
               o0 (.store 3 (.t 8) (.t 36))])
              (.seq (.reg [o1 37 (.faddr 1 (.t 8)),
                o1 38 (.load none (.t 37)),
                o1 39 (.bin .geq (.t 38) (cI 0))])
               (.cond (.t 39) (.reg [o1 40 (.mv (.t 6)),
                 o1 41 (.faddr 1 (.t 8)),
                 o1 42 (.load none (.t 41)),
                 o1 43 (.iaddr 1 (.t 40) (.t 42)),
                 o1 44 (.load none (.t 43)),
                 o1 45 (.bin .add (.t 44) (cI 1)),
                 o1 46 (.iaddr 1 (.t 40) (.t 42)),
                 o0 (.store 1 (.t 46) (.t 45))]) (.skip)))))
            (.reg [o1 47 (.bin .add (.t 33) (cI 1)),
             o1 33 (.mv (.t 47))])))))))
      (.seq (.reg [o1 9 (.mv (.c (.slice none 0 0))),
        o1 10 (.mv (.c (.slice none 0 0)))])
       (.seq (.reg [o1 11 (.mv (cI 0))])
        (.seq (.block 2 (.loop (.seq (.seq (.reg [o1 48 (.mv (.t 11)),
              o1 49 (.mv (.t 0)),
              o1 50 (.lenL (.t 49)),
              o1 51 (.bin .lss (.t 48) (.t 50)),
              o1 52 (.mv (.t 51)),
              oF 53 (.mv (.t 10)) 52,
              oF 54 (.lenL (.t 53)) 52,
              oF 55 (.bin .gtr (.t 54) (cI 1)) 52,
              o1 56 (.pick (.t 52) (cB true) (.t 55))])
             (.cond (.t 56) (.skip) (.exit 2)))
            (.block 3 (.seq (.seq (.reg [o1 57 (.mv (.t 10)),
                o1 58 (.lenL (.t 57)),
                o1 12 (.mv (.t 58))])
               (.seq (.reg [o1 59 (.mv (.t 12)),
                 o1 60 (.bin .gtr (.t 59) (cI 1))])
                (.cond (.t 60) (.seq (.regD [o1 61 (.mv (.t 10)),
                   o1 62 (.mv (.t 12)),
                   o1 63 (.bin .sub (.t 62) (cI 2)),
                   o1 64 (.iaddr 1 (.t 61) (.t 63)),
                   o1 65 (.load none (.t 64)),
                   o1 66 (.mv (.t 10)),
                   o1 67 (.mv (.t 12)),
                   o1 68 (.bin .sub (.t 67) (cI 1)),
                   o1 69 (.iaddr 1 (.t 66) (.t 68)),
                   o1 70 (.load none (.t 69)),
                   o1 13 (.mv (.t 65)),
                   o1 14 (.mv (.t 70))])
                  (.seq (.seq (.reg [o1 71 (.mv (.t 0)),
                     o1 72 (.mv (.t 13)),
                     o1 73 (.iaddr 3 (.t 71) (.t 72)),
                     o1 74 (.faddr 1 (.t 73)),
                     o1 75 (.load none (.t 74)),
                     o1 76 (.mv (.t 14)),
                     o1 77 (.bin .eql (.t 75) (.t 76)),
                     o1 78 (.mv (.t 77)),
                     oT 79 (.mv (.t 6)) 78,
                     oT 80 (.mv (.t 13)) 78,
                     oT 81 (.iaddr 1 (.t 79) (.t 80)) 78,
                     oT 82 (.load none (.t 81)) 78,
                     oT 83 (.bin .eql (.t 82) (cI 0)) 78,
                     o1 84 (.pick (.t 78) (.t 83) (cB false))])
                    (.cond (.t 84) (.seq (.regG [(true, o1 85 (.mv (.t 9))),
                       (true, o1 86 (.buildSl 3 1 1 [(.int .i64 0)] [(0, 1, (cI 1))])),
                       (true, o1 88 (.mv (.t 10))),
                       (true, o1 89 (.mv (.t 12))),
                       (true, o1 90 (.bin .sub (.t 89) (cI 2))),
                       (true, o1 91 (.sl 1 (.t 88) none (some (.t 90)))),
                       (true, o1 92 (.mv (.t 14))),
                       (true, o1 93 (.buildSl 3 1 1 [(.int .i64 0)] [(0, 1, (.t 92))])),
                       (true, o1 87 (.app 3 1 8 (.t 85) (.t 86))),
                       (false, o1 94 (.app 3 1 8 (.t 91) (.t 93))),
                       (false, o1 9 (.mv (.t 87))),
                       (false, o1 10 (.mv (.t 94)))])
                      (.seq (.reg [o1 95 (.mv (.t 6)),
                        o1 96 (.mv (.t 14)),
                        o1 97 (.iaddr 1 (.t 95) (.t 96)),
                        o1 98 (.load none (.t 97)),
                        o1 99 (.bin .sub (.t 98) (cI 1)),
                        o1 100 (.iaddr 1 (.t 95) (.t 96)),
                        o0 (.store 1 (.t 100) (.t 99))])
                       (.exit 3))) (.skip)))
                   (.seq (.reg [o1 101 (.mv (.t 0)),
                     o1 102 (.mv (.t 14)),
                     o1 103 (.iaddr 3 (.t 101) (.t 102)),
                     o1 104 (.faddr 1 (.t 103)),
                     o1 105 (.load none (.t 104)),
                     o1 106 (.mv (.t 13)),
                     o1 107 (.bin .eql (.t 105) (.t 106)),
                     o1 108 (.mv (.t 107)),
                     oT 109 (.mv (.t 6)) 108,
                     oT 110 (.mv (.t 14)) 108,
                     oT 111 (.iaddr 1 (.t 109) (.t 110)) 108,
                     oT 112 (.load none (.t 111)) 108,
                     oT 113 (.bin .eql (.t 112) (cI 0)) 108,
                     o1 114 (.pick (.t 108) (.t 113) (cB false))])
                    (.cond (.t 114) (.seq (.regG [(true, o1 115 (.mv (.t 9))),
                       (true, o1 116 (.buildSl 3 1 1 [(.int .i64 0)] [(0, 1, (cI 2))])),
                       (true, o1 118 (.mv (.t 10))),
                       (true, o1 119 (.mv (.t 12))),
                       (true, o1 120 (.bin .sub (.t 119) (cI 1))),
                       (true, o1 121 (.sl 1 (.t 118) none (some (.t 120)))),
                       (true, o1 117 (.app 3 1 8 (.t 115) (.t 116))),
                       (false, o1 9 (.mv (.t 117))),
                       (false, o1 10 (.mv (.t 121)))])
                      (.seq (.reg [o1 122 (.mv (.t 6)),
                        o1 123 (.mv (.t 13)),
                        o1 124 (.iaddr 1 (.t 122) (.t 123)),
                        o1 125 (.load none (.t 124)),
                        o1 126 (.bin .sub (.t 125) (cI 1)),
                        o1 127 (.iaddr 1 (.t 122) (.t 123)),
                        o0 (.store 1 (.t 127) (.t 126))])
                       (.exit 3))) (.skip))))) (.skip))))
              (.seq (.seq (.reg [o1 128 (.mv (.t 11)),
                 o1 129 (.mv (.t 0)),
                 o1 130 (.lenL (.t 129)),
                 o1 131 (.bin .eql (.t 128) (.t 130))])
                (.cond (.t 131) (.seq (.reg [o1 2 (.mv (.c (.slice none 0 0))),
                   o1 3 (.mv (cB false)),
                   o1 4 (.mv (cI 0))])
                  (.ret)) (.skip)))
               (.seq (.reg [o1 132 (.mv (.t 9)),
                 o1 133 (.buildSl 3 1 1 [(.int .i64 0)] [(0, 1, (cI 0))]),
                 o1 134 (.app 3 1 8 (.t 132) (.t 133)),
                 o1 135 (.mv (.t 10)),
                 o1 136 (.mv (.t 11)),
                 o1 137 (.buildSl 3 1 1 [(.int .i64 0)] [(0, 1, (.t 136))]),
                 o1 138 (.app 3 1 8 (.t 135) (.t 137)),
                 o1 9 (.mv (.t 134)),
                 o1 10 (.mv (.t 138))])
                (.reg [o1 139 (.mv (.t 11)),
                 o1 140 (.bin .add (.t 139) (cI 1)),
                 o1 11 (.mv (.t 140))]))))))))
         (.seq (.reg [o1 141 (.mv (.t 9)),
           o1 2 (.mv (.t 141)),
           o1 3 (.mv (cB true)),
           o1 4 (.mv (cI 0))])
          (.ret)))))))))
theorem s33_ok : lookF Try.prog 33 = some (s33, 142, [.tmp 2, .tmp 3, .tmp 4]) := by kernel_rfl
set_option maxHeartbeats 8000000 in
set_option maxRecDepth 10000 in
theorem moves_ok (l : List Hung) (hs : SmH l) : Fn P 33 [sl l] (triR (movesT l)) := by
  have c1 := validate_ok l hs
  by_cases h1 : valE l = 0
  · obtain ⟨v1, v2, v3⟩ := valE_ok h1
    have c2 := whole_ok l (by omega)
    have c3 := flat_ok l v1 v2
    rw [h1] at c1
    rw [movesT, if_neg (by omega)]
    by_cases hw : wholeB l = true
    · by_cases hf : flatB l = true
      · rw [hw] at c2
        rw [hf] at c3
        rw [hw, hf, Bool.and_self, if_pos rfl]
        (refine fn_look s33_ok (by simp) (by intro k; simp only [go_sem, Nat.reduceEqDiff, ↓reduceIte, reduceCtorEq, Nat.reduceAdd, Nat.reduceMul, Int.reduceToNat, List.reduceReplicate, Nat.reduceLeDiff, Nat.reduceLT, Int.reduceLT, Int.reduceLE, Int.reduceEq]) fun S hS => cwp_sound _ _ _ _ ?_; simp (disch := omega) only [s33, go_sem, Nat.reduceEqDiff, ↓reduceIte, reduceCtorEq, Nat.reduceAdd, Nat.reduceMul, Int.reduceToNat, List.reduceReplicate, Nat.reduceLeDiff, Nat.reduceLT, Int.reduceLT, Int.reduceLE, Int.reduceEq])
        repeat' (first | with_reducible refine inw ?_ | simp (disch := omega) only [go_sem, Nat.reduceEqDiff, ↓reduceIte, reduceCtorEq, Nat.reduceAdd, Nat.reduceMul, Int.reduceToNat, List.reduceReplicate, Nat.reduceLeDiff, Nat.reduceLT, Int.reduceLT, Int.reduceLE, Int.reduceEq] | (with_reducible apply call (c1)); (focus simp (disch := omega) only [go_sem, Nat.reduceEqDiff, ↓reduceIte, reduceCtorEq, Nat.reduceAdd, Nat.reduceMul, Int.reduceToNat, List.reduceReplicate, Nat.reduceLeDiff, Nat.reduceLT, Int.reduceLT, Int.reduceLE, Int.reduceEq] <;> rfl) | (with_reducible apply call (c2)); (focus simp (disch := omega) only [go_sem, Nat.reduceEqDiff, ↓reduceIte, reduceCtorEq, Nat.reduceAdd, Nat.reduceMul, Int.reduceToNat, List.reduceReplicate, Nat.reduceLeDiff, Nat.reduceLT, Int.reduceLT, Int.reduceLE, Int.reduceEq] <;> rfl) | (with_reducible apply call (c3)); (focus simp (disch := omega) only [go_sem, Nat.reduceEqDiff, ↓reduceIte, reduceCtorEq, Nat.reduceAdd, Nat.reduceMul, Int.reduceToNat, List.reduceReplicate, Nat.reduceLeDiff, Nat.reduceLT, Int.reduceLT, Int.reduceLE, Int.reduceEq] <;> rfl) | with_reducible refine giv_intro fun _h => ?_ | with_reducible refine alt_intro ?_ fun _h => ?_ | with_reducible refine pickD_nil ?_ | (with_reducible refine brc (fun _h => ?_) fun _h => ?_) <;> first | (exfalso; omega) | simp only [decide_eq_false _h] | simp only [(_h : (_ : Bool) = _)] | simp only [decide_eq_true _h] | skip)
        (refine loopC hS [0, 6, 31, 32] (by simp only [go_sem, Nat.reduceEqDiff, ↓reduceIte, reduceCtorEq, Nat.reduceAdd, Nat.reduceMul, Int.reduceToNat, List.reduceReplicate, Nat.reduceLeDiff, Nat.reduceLT, Int.reduceLT, Int.reduceLE, Int.reduceEq]; try rfl) (fun (⟨i, cn⟩ : Nat × List Int) => [(33, intA i)]) (fun (⟨i, cn⟩ : Nat × List Int) => [rowO 3 cn]) (fun (⟨i, cn⟩ : Nat × List Int) => i ≤ l.length ∧ cn.length = l.length ∧ ∀ a : Nat, a < l.length → nth cn a = (cntG l (List.replicate l.length false) a i : Nat)) (fun (⟨i, cn⟩ : Nat × List Int) => l.length - i) ((0, List.replicate l.length 0)) ?h01 ?hn1 ?rd1; case hn1 => (intro s; first | rfl | (rcases s with ⟨_, _⟩; rfl) | (rcases s with ⟨_, _, _⟩; rfl) | (rcases s with ⟨_, _, _, _⟩; rfl) | (rcases s with ⟨_, _, _, _, _⟩; rfl)))
        · simp (disch := omega) only [go_sem, Nat.reduceEqDiff, ↓reduceIte, reduceCtorEq, Nat.reduceAdd, Nat.reduceMul, Int.reduceToNat, List.reduceReplicate, Nat.reduceLeDiff, Nat.reduceLT, Int.reduceLT, Int.reduceLE, Int.reduceEq]
          exact ⟨Nat.zero_le _, fun a ha => by rw [nth_rep _ ha]; rfl⟩
        rintro ⟨i, cn⟩ ⟨hi, hcl, hC⟩
        replace hi : i ≤ l.length := hi
        replace hcl : cn.length = l.length := hcl
        replace hC : ∀ a : Nat, a < l.length → nth cn a = (cntG l (List.replicate l.length false) a i : Nat) := hC
        by_cases hil : i < l.length
        · have hr := v2 i hil
          by_cases hh : 0 ≤ (nth l i).2.1
          · obtain ⟨b, hb⟩ : ∃ b : Nat, (nth l i).2.1 = b := ⟨(nth l i).2.1.toNat, by omega⟩
            have hcb := hC b (by omega)
            have hle := cntG_le l (List.replicate l.length false) b i
            have hpl := putAt_len (l := cn) (i := b) (by omega) (nth cn b + 1)
            repeat' (first | with_reducible refine inw ?_ | simp (disch := omega) only [go_sem, Nat.reduceEqDiff, ↓reduceIte, reduceCtorEq, Nat.reduceAdd, Nat.reduceMul, Int.reduceToNat, List.reduceReplicate, Nat.reduceLeDiff, Nat.reduceLT, Int.reduceLT, Int.reduceLE, Int.reduceEq, hb, put_fold1] | with_reducible refine giv_intro fun _h => ?_ | with_reducible refine alt_intro ?_ fun _h => ?_ | with_reducible refine pickD_nil ?_ | (with_reducible refine brc (fun _h => ?_) fun _h => ?_) <;> first | (exfalso; omega) | simp only [decide_eq_false _h] | simp only [(_h : (_ : Bool) = _)] | simp only [decide_eq_true _h] | skip)
            refine ⟨(i + 1, putAt cn b (nth cn b + 1)), ⟨by omega, by omega, hpl.trans hcl, fun a ha => ?_⟩, by omega, rfl⟩
            show nth (putAt cn b (nth cn b + 1)) a = _
            rw [nth_put (by omega), cntG, nth_rep _ hil]
            split
            · rename_i e; subst e; rw [if_pos ⟨hb, rfl⟩]; omega
            · rename_i e; rw [if_neg (by omega), hC a ha]; rfl
          · repeat' (first | with_reducible refine inw ?_ | simp (disch := omega) only [go_sem, Nat.reduceEqDiff, ↓reduceIte, reduceCtorEq, Nat.reduceAdd, Nat.reduceMul, Int.reduceToNat, List.reduceReplicate, Nat.reduceLeDiff, Nat.reduceLT, Int.reduceLT, Int.reduceLE, Int.reduceEq] | with_reducible refine giv_intro fun _h => ?_ | with_reducible refine alt_intro ?_ fun _h => ?_ | with_reducible refine pickD_nil ?_ | (with_reducible refine brc (fun _h => ?_) fun _h => ?_) <;> first | (exfalso; omega) | simp only [decide_eq_false _h] | simp only [(_h : (_ : Bool) = _)] | simp only [decide_eq_true _h] | skip)
            refine ⟨(i + 1, cn), ⟨by omega, by omega, hcl, fun a ha => ?_⟩, by omega, rfl⟩
            show nth cn a = _
            rw [cntG, if_neg (by omega), hC a ha]; rfl
        · have hil : i = l.length := by omega
          subst hil
          have hCI : CntI l (List.replicate l.length false) cn := ⟨hcl, hC⟩
          repeat' (first | with_reducible refine inw ?_ | simp (disch := omega) only [go_sem, Nat.reduceEqDiff, ↓reduceIte, reduceCtorEq, Nat.reduceAdd, Nat.reduceMul, Int.reduceToNat, List.reduceReplicate, Nat.reduceLeDiff, Nat.reduceLT, Int.reduceLT, Int.reduceLE, Int.reduceEq] | with_reducible refine giv_intro fun _h => ?_ | with_reducible refine alt_intro ?_ fun _h => ?_ | with_reducible refine pickD_nil ?_ | (with_reducible refine brc (fun _h => ?_) fun _h => ?_) <;> first | (exfalso; omega) | simp only [decide_eq_false _h] | simp only [(_h : (_ : Bool) = _)] | simp only [decide_eq_true _h] | skip)
          refine nil_row 9 3 1 (by simp (disch := omega) only [go_sem, Nat.reduceEqDiff, ↓reduceIte, reduceCtorEq, Nat.reduceAdd, Nat.reduceMul, Int.reduceToNat, List.reduceReplicate, Nat.reduceLeDiff, Nat.reduceLT, Int.reduceLT, Int.reduceLE, Int.reduceEq]) ?_
          refine nil_row 10 3 1 (by simp (disch := omega) only [go_sem, Nat.reduceEqDiff, ↓reduceIte, reduceCtorEq, Nat.reduceAdd, Nat.reduceMul, Int.reduceToNat, List.reduceReplicate, Nat.reduceLeDiff, Nat.reduceLT, Int.reduceLT, Int.reduceLE, Int.reduceEq]) ?_
          (refine loopC hS [0, 6] (by simp only [go_sem, Nat.reduceEqDiff, ↓reduceIte, reduceCtorEq, Nat.reduceAdd, Nat.reduceMul, Int.reduceToNat, List.reduceReplicate, Nat.reduceLeDiff, Nat.reduceLT, Int.reduceLT, Int.reduceLE, Int.reduceEq]; try rfl) (fun (⟨n, out, f, c, nx, g, cn⟩ : Nat × List Int × List Int × Nat × Nat × List Bool × List Int) => [(9, own S 1 out), (10, .ref (S.nm 2) f.length 0 c), (11, intA nx)]) (fun (⟨n, out, f, c, nx, g, cn⟩ : Nat × List Int × List Int × Nat × Nat × List Bool × List Int) => [rowO 3 cn, rowO 3 out, rowO 3 f]) (fun (⟨n, out, f, c, nx, g, cn⟩ : Nat × List Int × List Int × Nat × Nat × List Bool × List Int) => MvI l (f.take c) nx g ∧ c ≤ f.length ∧ f.length ≤ nx ∧ 2 * (l.length - nx) + c = n ∧ out.length + n = 2 * l.length ∧ CntI l g cn ∧ movesR l = mvF l n out (f.take c) nx g) (fun (⟨n, out, f, c, nx, g, cn⟩ : Nat × List Int × List Int × Nat × Nat × List Bool × List Int) => n) ((2 * l.length, [], [], 0, 0, List.replicate l.length false, cn)) ?h02 ?hn2 ?rd2; case hn2 => (intro s; first | rfl | (rcases s with ⟨_, _⟩; rfl) | (rcases s with ⟨_, _, _⟩; rfl) | (rcases s with ⟨_, _, _, _⟩; rfl) | (rcases s with ⟨_, _, _, _, _⟩; rfl)))
          · simp (disch := omega) only [go_sem, Nat.reduceEqDiff, ↓reduceIte, reduceCtorEq, Nat.reduceAdd, Nat.reduceMul, Int.reduceToNat, List.reduceReplicate, Nat.reduceLeDiff, Nat.reduceLT, Int.reduceLT, Int.reduceLE, Int.reduceEq]
            exact ⟨mvI_0 l, by omega, hCI, rfl⟩
          rintro ⟨n, out, f, c, nx, g, cn⟩ ⟨hM, hc, hfl, hn, ho, hCI, hR⟩
          replace hM : MvI l (f.take c) nx g := hM
          replace hc : c ≤ f.length := hc
          replace hfl : f.length ≤ nx := hfl
          replace hn : 2 * (l.length - nx) + c = n := hn
          replace ho : out.length + n = 2 * l.length := ho
          replace hCI : CntI l g cn := hCI
          replace hR : movesR l = mvF l n out (f.take c) nx g := hR
          have hlt : (f.take c).length = c := by simp; omega
          have hln : ∀ p, p < c → nth (f.take c) p = nth f p := fun p hp => nth_take hp
          have hnx := hM.le
          have hgl := hM.len
          have hcl := hCI.1
          by_cases hgo : nx < l.length ∨ 1 < c
          · obtain ⟨m, rfl⟩ : ∃ m, n = m + 1 := ⟨n - 1, by omega⟩
            rw [mvF, if_pos (by rw [hlt]; exact hgo)] at hR
            have fin : ∀ (k : Int) (f' : List Int) (c' nx' : Nat) (g' : List Bool) (cn' : List Int) (z : Int), MvI l (f'.take c') nx' g' → c' ≤ f'.length → f'.length ≤ nx' → 2 * (l.length - nx') + c' = m → CntI l g' cn' → movesR l = mvF l m (out ++ [k]) (f'.take c') nx' g' → z = nx' → ∃ q : Nat × List Int × List Int × Nat × Nat × List Bool × List Int,
                (q.1 < m + 1 ∧ MvI l (q.2.2.1.take q.2.2.2.1) q.2.2.2.2.1 q.2.2.2.2.2.1 ∧ q.2.2.2.1 ≤ q.2.2.1.length ∧ q.2.2.1.length ≤ q.2.2.2.2.1 ∧ 2 * (l.length - q.2.2.2.2.1) + q.2.2.2.1 = q.1 ∧ q.2.1.length + q.1 = 2 * l.length ∧ CntI l q.2.2.2.2.2.1 q.2.2.2.2.2.2 ∧ movesR l = mvF l q.1 q.2.1 (q.2.2.1.take q.2.2.2.1) q.2.2.2.2.1 q.2.2.2.2.2.1) ∧
                ((out.length + 1 = q.2.1.length ∧ out.length + 1 = q.2.1.length) ∧ (f'.length = q.2.2.1.length ∧ c' = q.2.2.2.1) ∧ z = q.2.2.2.2.1) ∧ cellsL cn' = cellsL q.2.2.2.2.2.2 ∧ cellsL (out ++ [k]) = cellsL q.2.1 ∧ cellsL f' = cellsL q.2.2.1 := fun k f' c' nx' g' cn' z h1 h2 h3 h4 h5 h6 h7 =>
              ⟨(m, out ++ [k], f', c', nx', g', cn'), ⟨Nat.lt_succ_self _, h1, h2, h3, h4, by show (out ++ [k]).length + m = _; rw [List.length_append, List.length_singleton]; omega, h5, h6⟩, ⟨⟨by simp, by simp⟩, ⟨rfl, rfl⟩, h7⟩, rfl, rfl, rfl⟩
            by_cases a1 : 1 < c
            · have e1 : ((c : Int) - 2) = ((c - 2 : Nat) : Int) := by omega
              have e2 : ((c : Int) - 1) = ((c - 1 : Nat) : Int) := by omega
              have st1 := hM.st (c - 1) (by omega)
              have st2 := hM.st (c - 2) (by omega)
              rw [hln _ (by omega)] at st1 st2
              obtain ⟨a, ha⟩ : ∃ a : Nat, nth f (c - 2) = a := ⟨(nth f (c - 2)).toNat, by omega⟩
              obtain ⟨b, hb⟩ : ∃ b : Nat, nth f (c - 1) = b := ⟨(nth f (c - 1)).toNat, by omega⟩
              rw [hb, Int.toNat_natCast] at st1
              rw [ha, Int.toNat_natCast] at st2
              have hal : a < l.length := by omega
              have hbl : b < l.length := by omega
              have hfa := hCI.2 a hal
              have hfb := hCI.2 b hbl
              have fa := freeB_cnt l g a
              have fb := freeB_cnt l g b
              have mv : mvS l (f.take c) nx g = if (nth l a).2.1 = b ∧ freeB l g a = true then some (1, f.take (c - 2) ++ [(b : Int)], nx, putAt g a true)
                  else if (nth l b).2.1 = a ∧ freeB l g b = true then some (2, f.take (c - 1), nx, putAt g b true)
                  else if nx < l.length then some (0, f.take c ++ [(nx : Int)], nx + 1, g) else none := by
                rw [mvS, hlt, hln _ (by omega), hln _ (by omega), ha, hb, Int.toNat_natCast, Int.toNat_natCast, List.take_take, List.take_take, Nat.min_eq_left (by omega), Nat.min_eq_left (by omega)]
                simp only [a1, true_and]
              rw [mv] at hR
              by_cases hA : (nth l a).2.1 = b ∧ nth cn a = 0
              · obtain ⟨q1, q2⟩ := hA
                rw [if_pos ⟨q1, by rw [fa, decide_eq_true (by omega)]⟩] at hR
                dsimp only at hR
                obtain ⟨p1, p2, p3⟩ := cntI_put hgl hCI hal st2.2.2 hbl q1
                have hN := mvI_left hM (by omega)
                rw [hlt, hln _ (by omega), hln _ (by omega), ha, hb, Int.toNat_natCast, List.take_take, Nat.min_eq_left (by omega)] at hN
                have et : (putAt f (c - 2) (b : Int)).take (c - 2 + 1) = f.take (c - 2) ++ [(b : Int)] := by
                  rw [putAt, show f.take (c - 2) ++ (b : Int) :: f.drop (c - 2 + 1) = (f.take (c - 2) ++ [(b : Int)]) ++ f.drop (c - 2 + 1) by simp, List.take_left' (by simp; omega)]
                rw [← et] at hN hR
                have hpl := putAt_len (l := cn) (i := b) (by omega) (nth cn b - 1)
                have hpf := putAt_len (l := f) (i := c - 2) (by omega) (b : Int)
                repeat' (first | with_reducible refine inw ?_ | simp (disch := omega) only [go_sem, Nat.reduceEqDiff, ↓reduceIte, reduceCtorEq, Nat.reduceAdd, Nat.reduceMul, Int.reduceToNat, List.reduceReplicate, Nat.reduceLeDiff, Nat.reduceLT, Int.reduceLT, Int.reduceLE, Int.reduceEq, e1, e2, ax_room, ha, hb, q1, q2, put_fold1, src_one, Nat.sub_zero] | with_reducible refine pickD_at [S.nm 1] ?_ | with_reducible refine giv_intro fun _h => ?_ | with_reducible refine alt_intro ?_ fun _h => ?_ | with_reducible refine pickD_nil ?_ | (with_reducible refine brc (fun _h => ?_) fun _h => ?_) <;> first | (exfalso; omega) | simp only [decide_eq_false _h] | simp only [(_h : (_ : Bool) = _)] | simp only [decide_eq_true _h] | skip)
                all_goals
                  have := fin _ _ _ _ _ _ _ hN (by omega) (by omega) (by omega) p3 hR rfl
                  rw [hpf] at this
                  exact this
              · rw [if_neg (fun q => hA ⟨q.1, by have := of_decide_eq_true (fa ▸ q.2); omega⟩)] at hR
                by_cases hB : (nth l b).2.1 = a ∧ nth cn b = 0
                · obtain ⟨q1, q2⟩ := hB
                  rw [if_pos ⟨q1, by rw [fb, decide_eq_true (by omega)]⟩] at hR
                  dsimp only at hR
                  obtain ⟨p1, p2, p3⟩ := cntI_put hgl hCI hbl st1.2.2 hal q1
                  have hN := mvI_right hM (by omega)
                  rw [hlt, hln _ (by omega), hb, Int.toNat_natCast, List.take_take, Nat.min_eq_left (by omega)] at hN
                  have hpl := putAt_len (l := cn) (i := a) (by omega) (nth cn a - 1)
                  rcases not_and.1 hA with hA
                  by_cases q3 : (nth l a).2.1 = b
                  · have q4 := hA q3
                    repeat' (first | with_reducible refine inw ?_ | simp (disch := omega) only [go_sem, Nat.reduceEqDiff, ↓reduceIte, reduceCtorEq, Nat.reduceAdd, Nat.reduceMul, Int.reduceToNat, List.reduceReplicate, Nat.reduceLeDiff, Nat.reduceLT, Int.reduceLT, Int.reduceLE, Int.reduceEq, e1, e2, ax_room, ha, hb, q1, q2, q3, put_fold1, src_one, Nat.sub_zero] | with_reducible refine pickD_at [S.nm 1] ?_ | with_reducible refine giv_intro fun _h => ?_ | with_reducible refine alt_intro ?_ fun _h => ?_ | with_reducible refine pickD_nil ?_ | (with_reducible refine brc (fun _h => ?_) fun _h => ?_) <;> first | (exfalso; omega) | simp only [decide_eq_false _h] | simp only [(_h : (_ : Bool) = _)] | simp only [decide_eq_true _h] | skip)
                    all_goals exact fin _ _ _ _ _ _ _ hN (by omega) (by omega) (by omega) p3 hR rfl
                  · repeat' (first | with_reducible refine inw ?_ | simp (disch := omega) only [go_sem, Nat.reduceEqDiff, ↓reduceIte, reduceCtorEq, Nat.reduceAdd, Nat.reduceMul, Int.reduceToNat, List.reduceReplicate, Nat.reduceLeDiff, Nat.reduceLT, Int.reduceLT, Int.reduceLE, Int.reduceEq, e1, e2, ax_room, ha, hb, q1, q2, put_fold1, src_one, Nat.sub_zero] | with_reducible refine pickD_at [S.nm 1] ?_ | with_reducible refine giv_intro fun _h => ?_ | with_reducible refine alt_intro ?_ fun _h => ?_ | with_reducible refine pickD_nil ?_ | (with_reducible refine brc (fun _h => ?_) fun _h => ?_) <;> first | (exfalso; omega) | simp only [decide_eq_false _h] | simp only [(_h : (_ : Bool) = _)] | simp only [decide_eq_true _h] | skip)
                    all_goals exact fin _ _ _ _ _ _ _ hN (by omega) (by omega) (by omega) p3 hR rfl
                · rw [if_neg (fun q => hB ⟨q.1, by have := of_decide_eq_true (fb ▸ q.2); omega⟩)] at hR
                  by_cases hn : nx < l.length
                  · rw [if_pos hn] at hR
                    dsimp only at hR
                    have hN := mvI_shift hM hn
                    by_cases hcf : c < f.length
                    · have et : (putAt f c (nx : Int)).take (c + 1) = f.take c ++ [(nx : Int)] := by
                        rw [putAt, show f.take c ++ (nx : Int) :: f.drop (c + 1) = (f.take c ++ [(nx : Int)]) ++ f.drop (c + 1) by simp, List.take_left' (by simp; omega)]
                      rw [← et] at hN hR
                      have hpf := putAt_len (l := f) (i := c) hcf (nx : Int)
                      repeat' (first | with_reducible refine inw ?_ | simp (disch := omega) only [go_sem, Nat.reduceEqDiff, ↓reduceIte, reduceCtorEq, Nat.reduceAdd, Nat.reduceMul, Int.reduceToNat, List.reduceReplicate, Nat.reduceLeDiff, Nat.reduceLT, Int.reduceLT, Int.reduceLE, Int.reduceEq, e1, e2, ha, hb, ax_room, put_fold1] | with_reducible refine giv_intro fun _h => ?_ | with_reducible refine alt_intro ?_ fun _h => ?_ | with_reducible refine pickD_nil ?_ | (with_reducible refine brc (fun _h => ?_) fun _h => ?_) <;> first | (exfalso; omega) | simp only [decide_eq_false _h] | simp only [(_h : (_ : Bool) = _)] | simp only [decide_eq_true _h] | skip)
                      all_goals
                        have := fin _ _ _ _ _ _ (nx + 1) hN (by omega) (by omega) (by omega) hCI hR (by omega)
                        rw [hpf] at this
                        exact this
                    · have hcf : c = f.length := by omega
                      subst hcf
                      have et : (f ++ [(nx : Int)]).take (f.length + 1) = f.take f.length ++ [(nx : Int)] := by rw [List.take_length, List.take_of_length_le (by simp)]
                      rw [← et] at hN hR
                      repeat' (first | with_reducible refine inw ?_ | simp (disch := omega) only [go_sem, Nat.reduceEqDiff, ↓reduceIte, reduceCtorEq, Nat.reduceAdd, Nat.reduceMul, Int.reduceToNat, List.reduceReplicate, Nat.reduceLeDiff, Nat.reduceLT, Int.reduceLT, Int.reduceLE, Int.reduceEq, e1, e2, ha, hb] | with_reducible refine giv_intro fun _h => ?_ | with_reducible refine alt_intro ?_ fun _h => ?_ | with_reducible refine pickD_nil ?_ | (with_reducible refine brc (fun _h => ?_) fun _h => ?_) <;> first | (exfalso; omega) | simp only [decide_eq_false _h] | simp only [(_h : (_ : Bool) = _)] | simp only [decide_eq_true _h] | skip)
                      all_goals
                        have := fin _ _ _ _ _ _ (nx + 1) hN (by simp) (by simp; omega) (by omega) hCI hR (by omega)
                        rw [List.length_append, List.length_singleton] at this
                        exact this
                  · rw [if_neg hn] at hR
                    dsimp only at hR
                    rw [hR]
                    repeat' (first | with_reducible refine inw ?_ | simp (disch := omega) only [go_sem, Nat.reduceEqDiff, ↓reduceIte, reduceCtorEq, Nat.reduceAdd, Nat.reduceMul, Int.reduceToNat, List.reduceReplicate, Nat.reduceLeDiff, Nat.reduceLT, Int.reduceLT, Int.reduceLE, Int.reduceEq, e1, e2, ha, hb] | with_reducible refine giv_intro fun _h => ?_ | with_reducible refine alt_intro ?_ fun _h => ?_ | with_reducible refine pickD_nil ?_ | (with_reducible refine brc (fun _h => ?_) fun _h => ?_) <;> first | (exfalso; omega) | simp only [decide_eq_false _h] | simp only [(_h : (_ : Bool) = _)] | simp only [decide_eq_true _h] | skip)
                    all_goals rfl
            · have hn : nx < l.length := by omega
              have mv : mvS l (f.take c) nx g = some (0, f.take c ++ [(nx : Int)], nx + 1, g) := by
                rw [mvS, if_neg (fun q => a1 (hlt ▸ q.1)), if_neg (fun q => a1 (hlt ▸ q.1)), if_pos hn]
              rw [mv] at hR
              dsimp only at hR
              have hN := mvI_shift hM hn
              by_cases hcf : c < f.length
              · have et : (putAt f c (nx : Int)).take (c + 1) = f.take c ++ [(nx : Int)] := by
                  rw [putAt, show f.take c ++ (nx : Int) :: f.drop (c + 1) = (f.take c ++ [(nx : Int)]) ++ f.drop (c + 1) by simp, List.take_left' (by simp; omega)]
                rw [← et] at hN hR
                have hpf := putAt_len (l := f) (i := c) hcf (nx : Int)
                repeat' (first | with_reducible refine inw ?_ | simp (disch := omega) only [go_sem, Nat.reduceEqDiff, ↓reduceIte, reduceCtorEq, Nat.reduceAdd, Nat.reduceMul, Int.reduceToNat, List.reduceReplicate, Nat.reduceLeDiff, Nat.reduceLT, Int.reduceLT, Int.reduceLE, Int.reduceEq, ax_room, put_fold1] | with_reducible refine giv_intro fun _h => ?_ | with_reducible refine alt_intro ?_ fun _h => ?_ | with_reducible refine pickD_nil ?_ | (with_reducible refine brc (fun _h => ?_) fun _h => ?_) <;> first | (exfalso; omega) | simp only [decide_eq_false _h] | simp only [(_h : (_ : Bool) = _)] | simp only [decide_eq_true _h] | skip)
                all_goals
                  have := fin _ _ _ _ _ _ (nx + 1) hN (by omega) (by omega) (by omega) hCI hR (by omega)
                  rw [hpf] at this
                  exact this
              · have hcf : c = f.length := by omega
                subst hcf
                have et : (f ++ [(nx : Int)]).take (f.length + 1) = f.take f.length ++ [(nx : Int)] := by rw [List.take_length, List.take_of_length_le (by simp)]
                rw [← et] at hN hR
                repeat' (first | with_reducible refine inw ?_ | simp (disch := omega) only [go_sem, Nat.reduceEqDiff, ↓reduceIte, reduceCtorEq, Nat.reduceAdd, Nat.reduceMul, Int.reduceToNat, List.reduceReplicate, Nat.reduceLeDiff, Nat.reduceLT, Int.reduceLT, Int.reduceLE, Int.reduceEq] | with_reducible refine giv_intro fun _h => ?_ | with_reducible refine alt_intro ?_ fun _h => ?_ | with_reducible refine pickD_nil ?_ | (with_reducible refine brc (fun _h => ?_) fun _h => ?_) <;> first | (exfalso; omega) | simp only [decide_eq_false _h] | simp only [(_h : (_ : Bool) = _)] | simp only [decide_eq_true _h] | skip)
                all_goals
                  have := fin _ _ _ _ _ _ (nx + 1) hN (by simp) (by simp; omega) (by omega) hCI hR (by omega)
                  rw [List.length_append, List.length_singleton] at this
                  exact this
          · have e0 : mvF l n out (f.take c) nx g = some out := by cases n <;> simp [mvF, hgo, hlt]
            rw [hR, e0]
            repeat' (first | with_reducible refine inw ?_ | simp (disch := omega) only [go_sem, Nat.reduceEqDiff, ↓reduceIte, reduceCtorEq, Nat.reduceAdd, Nat.reduceMul, Int.reduceToNat, List.reduceReplicate, Nat.reduceLeDiff, Nat.reduceLT, Int.reduceLT, Int.reduceLE, Int.reduceEq] | with_reducible refine giv_intro fun _h => ?_ | with_reducible refine alt_intro ?_ fun _h => ?_ | with_reducible refine pickD_nil ?_ | (with_reducible refine brc (fun _h => ?_) fun _h => ?_) <;> first | (exfalso; omega) | simp only [decide_eq_false _h] | simp only [(_h : (_ : Bool) = _)] | simp only [decide_eq_true _h] | skip)
      · have hf2 : flatB l = false := by simpa using hf
        rw [hw] at c2
        rw [hf2] at c3
        rw [hf2, Bool.and_false, if_neg (by simp)]
        (refine fn_look s33_ok (by simp) (by intro k; simp only [go_sem, Nat.reduceEqDiff, ↓reduceIte, reduceCtorEq, Nat.reduceAdd, Nat.reduceMul, Int.reduceToNat, List.reduceReplicate, Nat.reduceLeDiff, Nat.reduceLT, Int.reduceLT, Int.reduceLE, Int.reduceEq]) fun S hS => cwp_sound _ _ _ _ ?_; simp (disch := omega) only [s33, go_sem, Nat.reduceEqDiff, ↓reduceIte, reduceCtorEq, Nat.reduceAdd, Nat.reduceMul, Int.reduceToNat, List.reduceReplicate, Nat.reduceLeDiff, Nat.reduceLT, Int.reduceLT, Int.reduceLE, Int.reduceEq])
        repeat' (first | with_reducible refine inw ?_ | simp (disch := omega) only [go_sem, Nat.reduceEqDiff, ↓reduceIte, reduceCtorEq, Nat.reduceAdd, Nat.reduceMul, Int.reduceToNat, List.reduceReplicate, Nat.reduceLeDiff, Nat.reduceLT, Int.reduceLT, Int.reduceLE, Int.reduceEq] | (with_reducible apply call (c1)); (focus simp (disch := omega) only [go_sem, Nat.reduceEqDiff, ↓reduceIte, reduceCtorEq, Nat.reduceAdd, Nat.reduceMul, Int.reduceToNat, List.reduceReplicate, Nat.reduceLeDiff, Nat.reduceLT, Int.reduceLT, Int.reduceLE, Int.reduceEq] <;> rfl) | (with_reducible apply call (c2)); (focus simp (disch := omega) only [go_sem, Nat.reduceEqDiff, ↓reduceIte, reduceCtorEq, Nat.reduceAdd, Nat.reduceMul, Int.reduceToNat, List.reduceReplicate, Nat.reduceLeDiff, Nat.reduceLT, Int.reduceLT, Int.reduceLE, Int.reduceEq] <;> rfl) | (with_reducible apply call (c3)); (focus simp (disch := omega) only [go_sem, Nat.reduceEqDiff, ↓reduceIte, reduceCtorEq, Nat.reduceAdd, Nat.reduceMul, Int.reduceToNat, List.reduceReplicate, Nat.reduceLeDiff, Nat.reduceLT, Int.reduceLT, Int.reduceLE, Int.reduceEq] <;> rfl) | with_reducible refine giv_intro fun _h => ?_ | with_reducible refine alt_intro ?_ fun _h => ?_ | with_reducible refine pickD_nil ?_ | (with_reducible refine brc (fun _h => ?_) fun _h => ?_) <;> first | (exfalso; omega) | simp only [decide_eq_false _h] | simp only [(_h : (_ : Bool) = _)] | simp only [decide_eq_true _h] | skip)
        all_goals rfl
    · have hw2 : wholeB l = false := by simpa using hw
      rw [hw2] at c2
      rw [hw2, Bool.false_and, if_neg (by simp)]
      (refine fn_look s33_ok (by simp) (by intro k; simp only [go_sem, Nat.reduceEqDiff, ↓reduceIte, reduceCtorEq, Nat.reduceAdd, Nat.reduceMul, Int.reduceToNat, List.reduceReplicate, Nat.reduceLeDiff, Nat.reduceLT, Int.reduceLT, Int.reduceLE, Int.reduceEq]) fun S hS => cwp_sound _ _ _ _ ?_; simp (disch := omega) only [s33, go_sem, Nat.reduceEqDiff, ↓reduceIte, reduceCtorEq, Nat.reduceAdd, Nat.reduceMul, Int.reduceToNat, List.reduceReplicate, Nat.reduceLeDiff, Nat.reduceLT, Int.reduceLT, Int.reduceLE, Int.reduceEq])
      repeat' (first | with_reducible refine inw ?_ | simp (disch := omega) only [go_sem, Nat.reduceEqDiff, ↓reduceIte, reduceCtorEq, Nat.reduceAdd, Nat.reduceMul, Int.reduceToNat, List.reduceReplicate, Nat.reduceLeDiff, Nat.reduceLT, Int.reduceLT, Int.reduceLE, Int.reduceEq] | (with_reducible apply call (c1)); (focus simp (disch := omega) only [go_sem, Nat.reduceEqDiff, ↓reduceIte, reduceCtorEq, Nat.reduceAdd, Nat.reduceMul, Int.reduceToNat, List.reduceReplicate, Nat.reduceLeDiff, Nat.reduceLT, Int.reduceLT, Int.reduceLE, Int.reduceEq] <;> rfl) | (with_reducible apply call (c2)); (focus simp (disch := omega) only [go_sem, Nat.reduceEqDiff, ↓reduceIte, reduceCtorEq, Nat.reduceAdd, Nat.reduceMul, Int.reduceToNat, List.reduceReplicate, Nat.reduceLeDiff, Nat.reduceLT, Int.reduceLT, Int.reduceLE, Int.reduceEq] <;> rfl) | (with_reducible apply call (c3)); (focus simp (disch := omega) only [go_sem, Nat.reduceEqDiff, ↓reduceIte, reduceCtorEq, Nat.reduceAdd, Nat.reduceMul, Int.reduceToNat, List.reduceReplicate, Nat.reduceLeDiff, Nat.reduceLT, Int.reduceLT, Int.reduceLE, Int.reduceEq] <;> rfl) | with_reducible refine giv_intro fun _h => ?_ | with_reducible refine alt_intro ?_ fun _h => ?_ | with_reducible refine pickD_nil ?_ | (with_reducible refine brc (fun _h => ?_) fun _h => ?_) <;> first | (exfalso; omega) | simp only [decide_eq_false _h] | simp only [(_h : (_ : Bool) = _)] | simp only [decide_eq_true _h] | skip)
      all_goals rfl
  · rw [movesT, if_pos h1]
    (refine fn_look s33_ok (by simp) (by intro k; simp only [go_sem, Nat.reduceEqDiff, ↓reduceIte, reduceCtorEq, Nat.reduceAdd, Nat.reduceMul, Int.reduceToNat, List.reduceReplicate, Nat.reduceLeDiff, Nat.reduceLT, Int.reduceLT, Int.reduceLE, Int.reduceEq]) fun S hS => cwp_sound _ _ _ _ ?_; simp (disch := omega) only [s33, go_sem, Nat.reduceEqDiff, ↓reduceIte, reduceCtorEq, Nat.reduceAdd, Nat.reduceMul, Int.reduceToNat, List.reduceReplicate, Nat.reduceLeDiff, Nat.reduceLT, Int.reduceLT, Int.reduceLE, Int.reduceEq])
    repeat' (first | with_reducible refine inw ?_ | simp (disch := omega) only [go_sem, Nat.reduceEqDiff, ↓reduceIte, reduceCtorEq, Nat.reduceAdd, Nat.reduceMul, Int.reduceToNat, List.reduceReplicate, Nat.reduceLeDiff, Nat.reduceLT, Int.reduceLT, Int.reduceLE, Int.reduceEq] | (with_reducible apply call (c1)); (focus simp (disch := omega) only [go_sem, Nat.reduceEqDiff, ↓reduceIte, reduceCtorEq, Nat.reduceAdd, Nat.reduceMul, Int.reduceToNat, List.reduceReplicate, Nat.reduceLeDiff, Nat.reduceLT, Int.reduceLT, Int.reduceLE, Int.reduceEq] <;> rfl) | with_reducible refine giv_intro fun _h => ?_ | with_reducible refine alt_intro ?_ fun _h => ?_ | with_reducible refine pickD_nil ?_ | (with_reducible refine brc (fun _h => ?_) fun _h => ?_) <;> first | (exfalso; omega) | simp only [decide_eq_false _h] | simp only [(_h : (_ : Bool) = _)] | simp only [decide_eq_true _h] | skip)
    all_goals rfl
/-- ablaut/ablautlaw21.DependMoves: 1 parameters, 0 captured -/
def s10 : SC := .seq (.reg [o1 2 (.mv (cB false))])
  (.seq (.seq (.reg [o1 9 (.mv (.t 0)),
     o1 10 (.call (.f 12) [(.t 9)])])
    (.cond (.t 10) (.seq (.reg [o1 11 (.call (.f 14) []),
       o1 2 (.mv (.t 11))])
      (.ret)) (.skip)))
   (.seq (.reg [o1 13 (.mv (.t 0)),
     o1 14 (.call (.f 33) [(.t 13)]),
     o1 12 (.mv (.t 14)),
     o1 15 (.ext (.t 12) 0),
     o1 16 (.ext (.t 12) 1),
     o1 17 (.ext (.t 12) 2),
     o1 3 (.mv (.t 15)),
     o1 4 (.mv (.t 16)),
     o1 5 (.mv (.t 17))])
    (.seq (.reg [o1 19 (.mv (.t 0)),
      o1 20 (.call (.f 34) [(.t 19)]),
      o1 18 (.mv (.t 20)),
      o1 21 (.ext (.t 18) 0),
      o1 22 (.ext (.t 18) 1),
      o1 23 (.ext (.t 18) 2),
      o1 6 (.mv (.t 21)),
      o1 7 (.mv (.t 22)),
      o1 8 (.mv (.t 23))])
     (.seq (.reg [o1 24 (.mv (.t 3)),
       o1 25 (.mv (.t 6)),
       o1 26 (.call (.f 23) [(.t 24), (.t 25)]),
       o1 27 (.mv (.t 26)),
       oT 28 (.mv (.t 4)) 27,
       oT 29 (.mv (.t 7)) 27,
       oT 30 (.eq false .bool (.t 28) (.t 29)) 27,
       o1 31 (.pick (.t 27) (.t 30) (cB false)),
       o1 32 (.mv (.t 31)),
       oT 33 (.mv (.t 5)) 32,
       oT 34 (.mv (.t 8)) 32,
       oT 35 (.bin .eql (.t 33) (.t 34)) 32,
       o1 36 (.pick (.t 32) (.t 35) (cB false)),
       o1 37 (.mv (.t 36)),
       oT 38 (.call (.f 14) []) 37,
       o1 39 (.pick (.t 37) (.t 38) (cB false)),
       o1 2 (.mv (.t 39))])
      (.ret)))))
theorem s10_ok : lookF Try.prog 10 = some (s10, 40, [.tmp 2]) := by kernel_rfl
theorem DependMoves_ok (l : List Hung) (hl : TH l) : Fn P 10 [sl l] (boolA true) := by
  have k0 := over_ok l
  by_cases h1 : overB l = false
  · rw [h1] at k0
    have ls := over_sm hl h1
    have c1 := moves_ok l ls
    have c2 := rMoves_ok l ls
    generalize movesT l = t at *
    (refine fn_look s10_ok (by simp) (by intro k; simp only [go_sem, Nat.reduceEqDiff, ↓reduceIte, reduceCtorEq, Nat.reduceAdd, Nat.reduceMul, Int.reduceToNat, List.reduceReplicate, Nat.reduceLeDiff, Nat.reduceLT, Int.reduceLT, Int.reduceLE, Int.reduceEq]) fun S hS => cwp_sound _ _ _ _ ?_; simp (disch := omega) only [s10, go_sem, Nat.reduceEqDiff, ↓reduceIte, reduceCtorEq, Nat.reduceAdd, Nat.reduceMul, Int.reduceToNat, List.reduceReplicate, Nat.reduceLeDiff, Nat.reduceLT, Int.reduceLT, Int.reduceLE, Int.reduceEq])
    repeat' (first | with_reducible refine inw ?_ | simp (disch := omega) only [go_sem, Nat.reduceEqDiff, ↓reduceIte, reduceCtorEq, Nat.reduceAdd, Nat.reduceMul, Int.reduceToNat, List.reduceReplicate, Nat.reduceLeDiff, Nat.reduceLT, Int.reduceLT, Int.reduceLE, Int.reduceEq] | (with_reducible apply call (k0)); (focus simp (disch := omega) only [go_sem, Nat.reduceEqDiff, ↓reduceIte, reduceCtorEq, Nat.reduceAdd, Nat.reduceMul, Int.reduceToNat, List.reduceReplicate, Nat.reduceLeDiff, Nat.reduceLT, Int.reduceLT, Int.reduceLE, Int.reduceEq] <;> rfl) | (with_reducible apply call (c1)); (focus simp (disch := omega) only [go_sem, Nat.reduceEqDiff, ↓reduceIte, reduceCtorEq, Nat.reduceAdd, Nat.reduceMul, Int.reduceToNat, List.reduceReplicate, Nat.reduceLeDiff, Nat.reduceLT, Int.reduceLT, Int.reduceLE, Int.reduceEq] <;> rfl) | (with_reducible apply call (c2)); (focus simp (disch := omega) only [go_sem, Nat.reduceEqDiff, ↓reduceIte, reduceCtorEq, Nat.reduceAdd, Nat.reduceMul, Int.reduceToNat, List.reduceReplicate, Nat.reduceLeDiff, Nat.reduceLT, Int.reduceLT, Int.reduceLE, Int.reduceEq] <;> rfl) | (with_reducible apply call (sameInts_ok _ _)); (focus simp (disch := omega) only [go_sem, Nat.reduceEqDiff, ↓reduceIte, reduceCtorEq, Nat.reduceAdd, Nat.reduceMul, Int.reduceToNat, List.reduceReplicate, Nat.reduceLeDiff, Nat.reduceLT, Int.reduceLT, Int.reduceLE, Int.reduceEq] <;> rfl) | (with_reducible apply call (known_ok)); (focus simp (disch := omega) only [go_sem, Nat.reduceEqDiff, ↓reduceIte, reduceCtorEq, Nat.reduceAdd, Nat.reduceMul, Int.reduceToNat, List.reduceReplicate, Nat.reduceLeDiff, Nat.reduceLT, Int.reduceLT, Int.reduceLE, Int.reduceEq] <;> rfl) | with_reducible refine giv_intro fun _h => ?_ | with_reducible refine alt_intro ?_ fun _h => ?_ | with_reducible refine pickD_nil ?_ | (with_reducible refine brc (fun _h => ?_) fun _h => ?_) <;> first | (exfalso; omega) | simp only [decide_eq_false _h] | simp only [(_h : (_ : Bool) = _)] | simp only [decide_eq_true _h] | skip)
  · rw [show overB l = true by simpa using h1] at k0
    (refine fn_look s10_ok (by simp) (by intro k; simp only [go_sem, Nat.reduceEqDiff, ↓reduceIte, reduceCtorEq, Nat.reduceAdd, Nat.reduceMul, Int.reduceToNat, List.reduceReplicate, Nat.reduceLeDiff, Nat.reduceLT, Int.reduceLT, Int.reduceLE, Int.reduceEq]) fun S hS => cwp_sound _ _ _ _ ?_; simp (disch := omega) only [s10, go_sem, Nat.reduceEqDiff, ↓reduceIte, reduceCtorEq, Nat.reduceAdd, Nat.reduceMul, Int.reduceToNat, List.reduceReplicate, Nat.reduceLeDiff, Nat.reduceLT, Int.reduceLT, Int.reduceLE, Int.reduceEq])
    repeat' (first | with_reducible refine inw ?_ | simp (disch := omega) only [go_sem, Nat.reduceEqDiff, ↓reduceIte, reduceCtorEq, Nat.reduceAdd, Nat.reduceMul, Int.reduceToNat, List.reduceReplicate, Nat.reduceLeDiff, Nat.reduceLT, Int.reduceLT, Int.reduceLE, Int.reduceEq] | (with_reducible apply call (k0)); (focus simp (disch := omega) only [go_sem, Nat.reduceEqDiff, ↓reduceIte, reduceCtorEq, Nat.reduceAdd, Nat.reduceMul, Int.reduceToNat, List.reduceReplicate, Nat.reduceLeDiff, Nat.reduceLT, Int.reduceLT, Int.reduceLE, Int.reduceEq] <;> rfl) | (with_reducible apply call (known_ok)); (focus simp (disch := omega) only [go_sem, Nat.reduceEqDiff, ↓reduceIte, reduceCtorEq, Nat.reduceAdd, Nat.reduceMul, Int.reduceToNat, List.reduceReplicate, Nat.reduceLeDiff, Nat.reduceLT, Int.reduceLT, Int.reduceLE, Int.reduceEq] <;> rfl) | with_reducible refine giv_intro fun _h => ?_ | with_reducible refine alt_intro ?_ fun _h => ?_ | with_reducible refine pickD_nil ?_ | (with_reducible refine brc (fun _h => ?_) fun _h => ?_) <;> first | (exfalso; omega) | simp only [decide_eq_false _h] | simp only [(_h : (_ : Bool) = _)] | simp only [decide_eq_true _h] | skip)
end Go.Proofs.Ytkedbkdbnmmkhaa.Ev

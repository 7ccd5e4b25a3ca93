/- The heads that moves give: the law DependReplays. -/
import Derived.Test.YtkedbkdbnmmkhaaZFnKg
set_option linter.unusedVariables false
set_option linter.unusedSimpArgs false
namespace Go.Proofs.Ytkedbkdbnmmkhaa.Ev
open Go Go.Proofs

/-- One move: heads, stack and the next node. -/
def repS (n : Nat) (m : Int) (h s : List Int) (nx : Nat) : Option (List Int × List Int × Nat) :=
  if m = 0 ∧ nx < n then some (h, s ++ [(nx : Int)], nx + 1)
  else if m = 1 ∧ 1 < s.length then some (putAt h (nth s (s.length - 2)).toNat (nth s (s.length - 1)), s.take (s.length - 2) ++ [nth s (s.length - 1)], nx)
  else if m = 2 ∧ 1 < s.length then some (putAt h (nth s (s.length - 1)).toNat (nth s (s.length - 2)), s.take (s.length - 1), nx)
  else none
def repF (n : Nat) : List Int → List Int → List Int → Nat → Option (List Int × List Int × Nat)
  | [], h, s, nx => some (h, s, nx)
  | m :: ms, h, s, nx => match repS n m h s nx with
    | some (h', s', nx') => repF n ms h' s' nx'
    | none => none
def badM (m : Int) : Bool := decide (m < 0) || decide (2 < m)
def repE (k : Nat) (ms : List Int) : List Int × Bool × Int := match repF k ms (List.replicate k 0) [] 0 with
  | none => ([], false, 0)
  | some (h, s, nx) => if nx < k ∨ 1 < s.length then ([], false, 0) else (if 0 < k then putAt h (nth s 0).toNat (-1) else h, true, 0)
def repT (n : Int) (ms : List Int) : List Int × Bool × Int :=
  if 200 < n ∨ 400 < ms.length then ([], false, 3) else if n < 0 then ([], false, 1) else if ms.any badM = true then ([], false, 1) else repE n.toNat ms
/-- What holds of heads, stack and next node. -/
def RepI (n : Nat) (h s : List Int) (nx : Nat) : Prop := h.length = n ∧ nx ≤ n ∧ (∀ p, p < s.length → 0 ≤ nth s p ∧ nth s p < nx) ∧ (0 < nx → 0 < s.length)
theorem nth_app {α : Type} {q : Nat} [Enc α q] {a b : List α} {p : Nat} : nth (a ++ b) p = if p < a.length then nth a p else nth b (p - a.length) := by
  unfold nth
  simp only [List.getD_eq_getElem?_getD]
  split
  · rename_i h; rw [List.getElem?_append_left h]
  · rename_i h; rw [List.getElem?_append_right (by omega)]
theorem nth_take {α : Type} {q : Nat} [Enc α q] {a : List α} {n p : Nat} (h : p < n) : nth (a.take n) p = nth a p := by
  unfold nth
  simp only [List.getD_eq_getElem?_getD, List.getElem?_take, if_pos h]
theorem repS_ok {n : Nat} {m : Int} {h s : List Int} {nx : Nat} (hI : RepI n h s nx) {h' s' : List Int} {nx' : Nat} (hr : repS n m h s nx = some (h', s', nx')) : RepI n h' s' nx' ∧ s'.length ≤ s.length + 1 := by
  obtain ⟨i1, i2, i3, i4⟩ := hI
  unfold repS at hr
  split at hr
  · rename_i hc
    simp only [Option.some.injEq, Prod.mk.injEq] at hr
    obtain ⟨rfl, rfl, rfl⟩ := hr
    refine ⟨⟨i1, by omega, fun p hp => ?_, fun _ => by simp⟩, by simp⟩
    rw [nth_app]
    split
    · rename_i h; have := i3 p h; omega
    · rename_i h
      have : p - s.length = 0 := by simp at hp; omega
      rw [this, nth_zero]; omega
  · split at hr
    · rename_i hc
      simp only [Option.some.injEq, Prod.mk.injEq] at hr
      obtain ⟨rfl, rfl, rfl⟩ := hr
      have a := i3 (s.length - 2) (by omega)
      have b := i3 (s.length - 1) (by omega)
      refine ⟨⟨by rw [putAt_len (by omega)]; exact i1, i2, fun p hp => ?_, fun _ => by simp⟩, by rw [List.length_append, List.length_take]; show _ + 1 ≤ _; omega⟩
      rw [nth_app]
      have hl : (s.take (s.length - 2)).length = s.length - 2 := by simp
      split
      · rename_i h; rw [nth_take (by omega)]; exact i3 p (by omega)
      · rename_i h
        have : p - (s.take (s.length - 2)).length = 0 := by simp at hp; omega
        rw [this, nth_zero]; exact b
    · split at hr
      · rename_i hc
        simp only [Option.some.injEq, Prod.mk.injEq] at hr
        obtain ⟨rfl, rfl, rfl⟩ := hr
        have a := i3 (s.length - 2) (by omega)
        have b := i3 (s.length - 1) (by omega)
        refine ⟨⟨by rw [putAt_len (by omega)]; exact i1, i2, fun p hp => ?_, fun _ => by simp; omega⟩, by simp; omega⟩
        have hp2 : p < s.length - 1 := by simp at hp; omega
        rw [nth_take hp2]; exact i3 p (by omega)
      · cases hr
theorem src_one (S : St) (x : AV) : srcOf S 1 (.ro 1 [x]) = some (1, [x]) := by simp [srcOf]
abbrev triR (t : List Int × Bool × Int) : AV := .tup [sl t.1, boolA t.2.1, intA t.2.2]
theorem put_fold1 {α : Type} {q : Nat} [Enc α q] (l : List α) (i : Nat) (x : α) : l.take i ++ [x] ++ l.drop (i + 1) = putAt l i x := by simp [putAt]
/-- ablaut/depend.Replay: 2 parameters, 0 captured -/
def s21 : SC := .seq (.reg [o1 4 (.mv (.c (.slice none 0 0))),
   o1 5 (.mv (cB false)),
   o1 6 (.mv (cI 0))])
  (.seq (.seq (.reg [o1 15 (.mv (.t 0)),
     o1 16 (.bin .gtr (.t 15) (cI 200)),
     o1 17 (.mv (.t 16)),
     oF 18 (.mv (.t 1)) 17,
     oF 19 (.lenL (.t 18)) 17,
     oF 20 (.bin .gtr (.t 19) (cI 400)) 17,
     o1 21 (.pick (.t 17) (cB true) (.t 20))])
    (.cond (.t 21) (.seq (.reg [o1 4 (.mv (.c (.slice none 0 0))),
       o1 5 (.mv (cB false)),
       o1 6 (.mv (cI 3))])
      (.ret)) (.skip)))
   (.seq (.seq (.reg [o1 22 (.mv (.t 0)),
      o1 23 (.bin .lss (.t 22) (cI 0))])
     (.cond (.t 23) (.seq (.reg [o1 4 (.mv (.c (.slice none 0 0))),
        o1 5 (.mv (cB false)),
        o1 6 (.mv (cI 1))])
       (.ret)) (.skip)))
    (.seq (.seq (.reg [o1 24 (.mv (.t 1)),
       o1 25 (.lenL (.t 24)),
       o1 26 (.mv (cI 0))])
      (.block 0 (.loop (.seq (.reg [o1 27 (.bin .lss (.t 26) (.t 25))])
         (.seq (.cond (.t 27) (.skip) (.exit 0))
          (.seq (.block 1 (.seq (.reg [o1 28 (.iaddr 1 (.t 24) (.t 26)),
              o1 29 (.load none (.t 28)),
              o1 8 (.mv (.t 29))])
             (.seq (.reg [o1 30 (.mv (.t 8)),
               o1 31 (.bin .lss (.t 30) (cI 0)),
               o1 32 (.mv (.t 31)),
               oF 33 (.mv (.t 8)) 32,
               oF 34 (.bin .gtr (.t 33) (cI 2)) 32,
               o1 35 (.pick (.t 32) (cB true) (.t 34))])
              (.cond (.t 35) (.seq (.reg [o1 4 (.mv (.c (.slice none 0 0))),
                 o1 5 (.mv (cB false)),
                 o1 6 (.mv (cI 1))])
                (.ret)) (.skip)))))
           (.reg [o1 36 (.bin .add (.t 26) (cI 1)),
            o1 26 (.mv (.t 36))])))))))
     (.seq (.reg [o1 37 (.mv (.t 0)),
       o1 38 (.mksl 3 1 8 [(.int .i64 0)] (.t 37) (.t 37)),
       o1 9 (.mv (.t 38))])
      (.seq (.reg [o1 10 (.mv (.c (.slice none 0 0)))])
       (.seq (.reg [o1 11 (.mv (cI 0))])
        (.seq (.seq (.reg [o1 39 (.mv (.t 1)),
           o1 40 (.lenL (.t 39)),
           o1 41 (.mv (cI 0))])
          (.block 2 (.loop (.seq (.reg [o1 42 (.bin .lss (.t 41) (.t 40))])
             (.seq (.cond (.t 42) (.skip) (.exit 2))
              (.seq (.block 3 (.seq (.reg [o1 43 (.iaddr 1 (.t 39) (.t 41)),
                  o1 44 (.load none (.t 43)),
                  o1 13 (.mv (.t 44))])
                 (.seq (.reg [o1 45 (.mv (.t 10)),
                   o1 46 (.lenL (.t 45)),
                   o1 14 (.mv (.t 46))])
                  (.block 4 (.seq (.reg [o1 48 (.mv (.t 13)),
                     o1 49 (.bin .eql (.t 48) (cI 0)),
                     o1 50 (.mv (.t 49)),
                     oT 51 (.mv (.t 11)) 50,
                     oT 52 (.mv (.t 0)) 50,
                     oT 53 (.bin .lss (.t 51) (.t 52)) 50,
                     o1 54 (.pick (.t 50) (.t 53) (cB false)),
                     o1 47 (.mv (.t 54))])
                    (.cond (.t 47) (.seq (.reg [o1 55 (.mv (.t 10)),
                       o1 56 (.mv (.t 11)),
                       o1 57 (.buildSl 3 1 1 [(.int .i64 0)] [(0, 1, (.t 56))]),
                       o1 58 (.app 3 1 8 (.t 55) (.t 57)),
                       o1 10 (.mv (.t 58))])
                      (.reg [o1 59 (.mv (.t 11)),
                       o1 60 (.bin .add (.t 59) (cI 1)),
                       o1 11 (.mv (.t 60))])) (.seq (.reg [o1 62 (.mv (.t 13)),
                       o1 63 (.bin .eql (.t 62) (cI 1)),
                       o1 64 (.mv (.t 63)),
                       oT 65 (.mv (.t 14)) 64,
                       oT 66 (.bin .gtr (.t 65) (cI 1)) 64,
                       o1 67 (.pick (.t 64) (.t 66) (cB false)),
                       o1 61 (.mv (.t 67))])
                      (.cond (.t 61) (.seq (.regE [o1 68 (.mv (.t 9)),
                         o1 69 (.mv (.t 10)),
                         o1 70 (.mv (.t 14)),
                         o1 71 (.bin .sub (.t 70) (cI 2)),
                         o1 72 (.iaddr 1 (.t 69) (.t 71)),
                         o1 73 (.load none (.t 72)),
                         o1 74 (.mv (.t 10)),
                         o1 75 (.mv (.t 14)),
                         o1 76 (.bin .sub (.t 75) (cI 1)),
                         o1 77 (.iaddr 1 (.t 74) (.t 76)),
                         o1 78 (.load none (.t 77)),
                         o1 79 (.iaddr 1 (.t 68) (.t 73)),
                         o0 (.store 1 (.t 79) (.t 78))])
                        (.regE [o1 80 (.mv (.t 10)),
                         o1 81 (.mv (.t 14)),
                         o1 82 (.bin .sub (.t 81) (cI 2)),
                         o1 83 (.sl 1 (.t 80) none (some (.t 82))),
                         o1 84 (.mv (.t 10)),
                         o1 85 (.mv (.t 14)),
                         o1 86 (.bin .sub (.t 85) (cI 1)),
                         o1 87 (.iaddr 1 (.t 84) (.t 86)),
                         o1 88 (.load none (.t 87)),
                         o1 89 (.buildSl 3 1 1 [(.int .i64 0)] [(0, 1, (.t 88))]),
                         o1 90 (.app 3 1 8 (.t 83) (.t 89)),
                         o1 10 (.mv (.t 90))])) (.seq (.reg [o1 92 (.mv (.t 13)),
                         o1 93 (.bin .eql (.t 92) (cI 2)),
                         o1 94 (.mv (.t 93)),
                         oT 95 (.mv (.t 14)) 94,
                         oT 96 (.bin .gtr (.t 95) (cI 1)) 94,
                         o1 97 (.pick (.t 94) (.t 96) (cB false)),
                         o1 91 (.mv (.t 97))])
                        (.cond (.t 91) (.seq (.regE [o1 98 (.mv (.t 9)),
                           o1 99 (.mv (.t 10)),
                           o1 100 (.mv (.t 14)),
                           o1 101 (.bin .sub (.t 100) (cI 1)),
                           o1 102 (.iaddr 1 (.t 99) (.t 101)),
                           o1 103 (.load none (.t 102)),
                           o1 104 (.mv (.t 10)),
                           o1 105 (.mv (.t 14)),
                           o1 106 (.bin .sub (.t 105) (cI 2)),
                           o1 107 (.iaddr 1 (.t 104) (.t 106)),
                           o1 108 (.load none (.t 107)),
                           o1 109 (.iaddr 1 (.t 98) (.t 103)),
                           o0 (.store 1 (.t 109) (.t 108))])
                          (.reg [o1 110 (.mv (.t 10)),
                           o1 111 (.mv (.t 14)),
                           o1 112 (.bin .sub (.t 111) (cI 1)),
                           o1 113 (.sl 1 (.t 110) none (some (.t 112))),
                           o1 10 (.mv (.t 113))])) (.seq (.reg [o1 4 (.mv (.c (.slice none 0 0))),
                           o1 5 (.mv (cB false)),
                           o1 6 (.mv (cI 0))])
                          (.ret))))))))))))
               (.reg [o1 114 (.bin .add (.t 41) (cI 1)),
                o1 41 (.mv (.t 114))])))))))
         (.seq (.seq (.reg [o1 115 (.mv (.t 11)),
            o1 116 (.mv (.t 0)),
            o1 117 (.bin .lss (.t 115) (.t 116)),
            o1 118 (.mv (.t 117)),
            oF 119 (.mv (.t 10)) 118,
            oF 120 (.lenL (.t 119)) 118,
            oF 121 (.bin .gtr (.t 120) (cI 1)) 118,
            o1 122 (.pick (.t 118) (cB true) (.t 121))])
           (.cond (.t 122) (.seq (.reg [o1 4 (.mv (.c (.slice none 0 0))),
              o1 5 (.mv (cB false)),
              o1 6 (.mv (cI 0))])
             (.ret)) (.skip)))
          (.seq (.seq (.reg [o1 123 (.mv (.t 0)),
             o1 124 (.bin .gtr (.t 123) (cI 0))])
            (.cond (.t 124) (.reg [o1 125 (.mv (.t 9)),
              o1 126 (.mv (.t 10)),
              o1 127 (.iaddr 1 (.t 126) (cI 0)),
              o1 128 (.load none (.t 127)),
              o1 129 (.iaddr 1 (.t 125) (.t 128)),
              o0 (.store 1 (.t 129) (cI (-1)))]) (.skip)))
           (.seq (.reg [o1 130 (.mv (.t 9)),
             o1 4 (.mv (.t 130)),
             o1 5 (.mv (cB true)),
             o1 6 (.mv (cI 0))])
            (.ret)))))))))))
theorem s21_ok : lookF Try.prog 21 = some (s21, 131, [.tmp 4, .tmp 5, .tmp 6]) := by kernel_rfl
set_option maxHeartbeats 4000000 in
theorem replay_ok (n : Int) (ms : List Int) : Fn P 21 [intA n, sl ms] (triR (repT n ms)) := by
  by_cases h1 : 200 < n ∨ 400 < ms.length
  · rw [repT, if_pos h1]
    (refine fn_look s21_ok (by simp) (by intro k; simp only [go_sem, Nat.reduceEqDiff, ↓reduceIte, reduceCtorEq, Nat.reduceAdd, Nat.reduceMul, Int.reduceToNat, List.reduceReplicate, Nat.reduceLeDiff, Nat.reduceLT, Int.reduceLT, Int.reduceLE, Int.reduceEq]) fun S hS => cwp_sound _ _ _ _ ?_; simp (disch := omega) only [s21, go_sem, Nat.reduceEqDiff, ↓reduceIte, reduceCtorEq, Nat.reduceAdd, Nat.reduceMul, Int.reduceToNat, List.reduceReplicate, Nat.reduceLeDiff, Nat.reduceLT, Int.reduceLT, Int.reduceLE, Int.reduceEq])
    repeat' (first | with_reducible refine inw ?_ | simp (disch := omega) only [go_sem, Nat.reduceEqDiff, ↓reduceIte, reduceCtorEq, Nat.reduceAdd, Nat.reduceMul, Int.reduceToNat, List.reduceReplicate, Nat.reduceLeDiff, Nat.reduceLT, Int.reduceLT, Int.reduceLE, Int.reduceEq] | with_reducible refine giv_intro fun _h => ?_ | with_reducible refine alt_intro ?_ fun _h => ?_ | with_reducible refine pickD_nil ?_ | (with_reducible refine brc (fun _h => ?_) fun _h => ?_) <;> first | (exfalso; omega) | simp only [decide_eq_false _h] | simp only [(_h : (_ : Bool) = _)] | simp only [decide_eq_true _h] | skip)
    all_goals first
      | rfl
      | (exfalso; omega)
  by_cases h2 : n < 0
  · rw [repT, if_neg h1, if_pos h2]
    (refine fn_look s21_ok (by simp) (by intro k; simp only [go_sem, Nat.reduceEqDiff, ↓reduceIte, reduceCtorEq, Nat.reduceAdd, Nat.reduceMul, Int.reduceToNat, List.reduceReplicate, Nat.reduceLeDiff, Nat.reduceLT, Int.reduceLT, Int.reduceLE, Int.reduceEq]) fun S hS => cwp_sound _ _ _ _ ?_; simp (disch := omega) only [s21, go_sem, Nat.reduceEqDiff, ↓reduceIte, reduceCtorEq, Nat.reduceAdd, Nat.reduceMul, Int.reduceToNat, List.reduceReplicate, Nat.reduceLeDiff, Nat.reduceLT, Int.reduceLT, Int.reduceLE, Int.reduceEq])
    repeat' (first | with_reducible refine inw ?_ | simp (disch := omega) only [go_sem, Nat.reduceEqDiff, ↓reduceIte, reduceCtorEq, Nat.reduceAdd, Nat.reduceMul, Int.reduceToNat, List.reduceReplicate, Nat.reduceLeDiff, Nat.reduceLT, Int.reduceLT, Int.reduceLE, Int.reduceEq] | with_reducible refine giv_intro fun _h => ?_ | with_reducible refine alt_intro ?_ fun _h => ?_ | with_reducible refine pickD_nil ?_ | (with_reducible refine brc (fun _h => ?_) fun _h => ?_) <;> first | (exfalso; omega) | simp only [decide_eq_false _h] | simp only [(_h : (_ : Bool) = _)] | simp only [decide_eq_true _h] | skip)
    all_goals first
      | rfl
      | (exfalso; omega)
  · obtain ⟨k, rfl⟩ : ∃ k : Nat, n = k := ⟨n.toNat, by omega⟩
    have hm4 : ms.length ≤ 400 := by omega
    have hk2 : k ≤ 200 := by omega
    rw [repT, if_neg h1, if_neg h2]
    (refine fn_look s21_ok (by simp) (by intro k; simp only [go_sem, Nat.reduceEqDiff, ↓reduceIte, reduceCtorEq, Nat.reduceAdd, Nat.reduceMul, Int.reduceToNat, List.reduceReplicate, Nat.reduceLeDiff, Nat.reduceLT, Int.reduceLT, Int.reduceLE, Int.reduceEq]) fun S hS => cwp_sound _ _ _ _ ?_; simp (disch := omega) only [s21, go_sem, Nat.reduceEqDiff, ↓reduceIte, reduceCtorEq, Nat.reduceAdd, Nat.reduceMul, Int.reduceToNat, List.reduceReplicate, Nat.reduceLeDiff, Nat.reduceLT, Int.reduceLT, Int.reduceLE, Int.reduceEq])
    repeat' (first | with_reducible refine inw ?_ | simp (disch := omega) only [go_sem, Nat.reduceEqDiff, ↓reduceIte, reduceCtorEq, Nat.reduceAdd, Nat.reduceMul, Int.reduceToNat, List.reduceReplicate, Nat.reduceLeDiff, Nat.reduceLT, Int.reduceLT, Int.reduceLE, Int.reduceEq] | with_reducible refine giv_intro fun _h => ?_ | with_reducible refine alt_intro ?_ fun _h => ?_ | with_reducible refine pickD_nil ?_ | (with_reducible refine brc (fun _h => ?_) fun _h => ?_) <;> first | (exfalso; omega) | simp only [decide_eq_false _h] | simp only [(_h : (_ : Bool) = _)] | simp only [decide_eq_true _h] | skip)
    (refine loopC hS [0, 1, 24, 25] (by simp only [go_sem, Nat.reduceEqDiff, ↓reduceIte, reduceCtorEq, Nat.reduceAdd, Nat.reduceMul, Int.reduceToNat, List.reduceReplicate, Nat.reduceLeDiff, Nat.reduceLT, Int.reduceLT, Int.reduceLE, Int.reduceEq]; try rfl) (fun (i : Nat) => [(26, intA i)]) (fun (i : Nat) => []) (fun (i : Nat) => i ≤ ms.length ∧ ms.any badM = (ms.drop i).any badM) (fun (i : Nat) => ms.length - i) (0) ?h01 ?hn1 ?rd1; case hn1 => (intro s; first | rfl | (rcases s with ⟨_, _⟩; rfl) | (rcases s with ⟨_, _, _⟩; rfl) | (rcases s with ⟨_, _, _, _⟩; rfl) | (rcases s with ⟨_, _, _, _, _⟩; rfl)))
    · simp (disch := omega) only [go_sem, Nat.reduceEqDiff, ↓reduceIte, reduceCtorEq, Nat.reduceAdd, Nat.reduceMul, Int.reduceToNat, List.reduceReplicate, Nat.reduceLeDiff, Nat.reduceLT, Int.reduceLT, Int.reduceLE, Int.reduceEq]; simp
    rintro i ⟨hi, hI⟩
    replace hi : i ≤ ms.length := hi
    replace hI : ms.any badM = (ms.drop i).any badM := hI
    by_cases hil : i < ms.length
    · have hst := any_step hil hI
      repeat' (first | with_reducible refine inw ?_ | simp (disch := omega) only [go_sem, Nat.reduceEqDiff, ↓reduceIte, reduceCtorEq, Nat.reduceAdd, Nat.reduceMul, Int.reduceToNat, List.reduceReplicate, Nat.reduceLeDiff, Nat.reduceLT, Int.reduceLT, Int.reduceLE, Int.reduceEq] | with_reducible refine giv_intro fun _h => ?_ | with_reducible refine alt_intro ?_ fun _h => ?_ | with_reducible refine pickD_nil ?_ | (with_reducible refine brc (fun _h => ?_) fun _h => ?_) <;> first | (exfalso; omega) | simp only [decide_eq_false _h] | simp only [(_h : (_ : Bool) = _)] | simp only [decide_eq_true _h] | skip)
      all_goals first
        | exact ⟨i + 1, ⟨by omega, by omega, by rw [hst, badM, decide_eq_false (by omega), decide_eq_false (by omega)]; rfl⟩, by omega⟩
        | (rw [if_pos (by rw [hst, badM, decide_eq_true (by assumption)]; rfl)]; rfl)
        | (rw [if_pos (by rw [hst, badM, decide_eq_true (p := 2 < nth ms i) (by assumption), Bool.or_true]; rfl)]; rfl)
    · rw [List.drop_eq_nil_of_le (by omega)] at hI
      rw [if_neg (by rw [hI]; simp)]
      repeat' (first | with_reducible refine inw ?_ | simp (disch := omega) only [go_sem, Nat.reduceEqDiff, ↓reduceIte, reduceCtorEq, Nat.reduceAdd, Nat.reduceMul, Int.reduceToNat, List.reduceReplicate, Nat.reduceLeDiff, Nat.reduceLT, Int.reduceLT, Int.reduceLE, Int.reduceEq] | with_reducible refine giv_intro fun _h => ?_ | with_reducible refine alt_intro ?_ fun _h => ?_ | with_reducible refine pickD_nil ?_ | (with_reducible refine brc (fun _h => ?_) fun _h => ?_) <;> first | (exfalso; omega) | simp only [decide_eq_false _h] | simp only [(_h : (_ : Bool) = _)] | simp only [decide_eq_true _h] | skip)
      refine nil_row 10 3 1 (by simp (disch := omega) only [go_sem, Nat.reduceEqDiff, ↓reduceIte, reduceCtorEq, Nat.reduceAdd, Nat.reduceMul, Int.reduceToNat, List.reduceReplicate, Nat.reduceLeDiff, Nat.reduceLT, Int.reduceLT, Int.reduceLE, Int.reduceEq]) ?_
      (refine loopC hS [0, 9, 39, 40] (by simp only [go_sem, Nat.reduceEqDiff, ↓reduceIte, reduceCtorEq, Nat.reduceAdd, Nat.reduceMul, Int.reduceToNat, List.reduceReplicate, Nat.reduceLeDiff, Nat.reduceLT, Int.reduceLT, Int.reduceLE, Int.reduceEq]; try rfl) (fun (⟨i, hh, f, c, nx⟩ : Nat × List Int × List Int × Nat × Nat) => [(10, .ref (S.nm 1) f.length 0 c), (11, intA nx), (41, intA i)]) (fun (⟨i, hh, f, c, nx⟩ : Nat × List Int × List Int × Nat × Nat) => [rowO 3 hh, rowO 3 f]) (fun (⟨i, hh, f, c, nx⟩ : Nat × List Int × List Int × Nat × Nat) => i ≤ ms.length ∧ c ≤ f.length ∧ f.length ≤ i ∧ RepI k hh (f.take c) nx ∧ repF k ms (List.replicate k 0) [] 0 = repF k (ms.drop i) hh (f.take c) nx) (fun (⟨i, hh, f, c, nx⟩ : Nat × List Int × List Int × Nat × Nat) => ms.length - i) ((0, List.replicate k 0, [], 0, 0)) ?h02 ?hn2 ?rd2; case hn2 => (intro s; first | rfl | (rcases s with ⟨_, _⟩; rfl) | (rcases s with ⟨_, _, _⟩; rfl) | (rcases s with ⟨_, _, _, _⟩; rfl) | (rcases s with ⟨_, _, _, _, _⟩; rfl)))
      · refine ⟨⟨by omega, by omega, by simp, ⟨by simp, by omega, fun p hp => by simp at hp, fun h => by omega⟩, by simp⟩, by simp (disch := omega) only [go_sem, Nat.reduceEqDiff, ↓reduceIte, reduceCtorEq, Nat.reduceAdd, Nat.reduceMul, Int.reduceToNat, List.reduceReplicate, Nat.reduceLeDiff, Nat.reduceLT, Int.reduceLT, Int.reduceLE, Int.reduceEq], by simp (disch := omega) only [go_sem, Nat.reduceEqDiff, ↓reduceIte, reduceCtorEq, Nat.reduceAdd, Nat.reduceMul, Int.reduceToNat, List.reduceReplicate, Nat.reduceLeDiff, Nat.reduceLT, Int.reduceLT, Int.reduceLE, Int.reduceEq]⟩
      rintro ⟨i, hh, f, c, nx⟩ ⟨hi, hc, hf, hR, hJ⟩
      replace hi : i ≤ ms.length := hi
      replace hc : c ≤ f.length := hc
      replace hf : f.length ≤ i := hf
      replace hR : RepI k hh (f.take c) nx := hR
      replace hJ : repF k ms (List.replicate k 0) [] 0 = repF k (ms.drop i) hh (f.take c) nx := hJ
      have hlt : (f.take c).length = c := by simp; omega
      have hln : ∀ p, p < c → nth (f.take c) p = nth f p := fun p hp => nth_take hp
      obtain ⟨R1, R2, R3, R4⟩ := hR
      rw [hlt] at R3 R4
      by_cases hil : i < ms.length
      · rw [nth_drop hil, repF] at hJ
        by_cases hA : nth ms i = 0 ∧ nx < k
        · have er : repS k (nth ms i) hh (f.take c) nx = some (hh, f.take c ++ [(nx : Int)], nx + 1) := by rw [repS, if_pos hA]
          have ok := (repS_ok ⟨R1, R2, by rw [hlt]; exact R3, by rw [hlt]; exact R4⟩ er).1
          rw [er] at hJ
          dsimp only at hJ
          by_cases hcf : c < f.length
          · have et : (putAt f c (nx : Int)).take (c + 1) = f.take c ++ [(nx : Int)] := by
              rw [putAt, show f.take c ++ (nx : Int) :: f.drop (c + 1) = (f.take c ++ [(nx : Int)]) ++ f.drop (c + 1) by simp, List.take_left' (by simp; omega)]
            repeat' (first | with_reducible refine inw ?_ | simp (disch := omega) only [go_sem, Nat.reduceEqDiff, ↓reduceIte, reduceCtorEq, Nat.reduceAdd, Nat.reduceMul, Int.reduceToNat, List.reduceReplicate, Nat.reduceLeDiff, Nat.reduceLT, Int.reduceLT, Int.reduceLE, Int.reduceEq, ax_room, hA.1, put_fold1] | with_reducible refine giv_intro fun _h => ?_ | with_reducible refine alt_intro ?_ fun _h => ?_ | with_reducible refine pickD_nil ?_ | (with_reducible refine brc (fun _h => ?_) fun _h => ?_) <;> first | (exfalso; omega) | simp only [decide_eq_false _h] | simp only [(_h : (_ : Bool) = _)] | simp only [decide_eq_true _h] | skip)
            refine ⟨(i + 1, hh, putAt f c (nx : Int), c + 1, nx + 1), ?_⟩
            dsimp only
            rw [et, putAt_len hcf]
            exact ⟨⟨by omega, by omega, by omega, by omega, ok, hJ⟩, ⟨⟨rfl, rfl⟩, by omega, by omega⟩, rfl, rfl⟩
          · have hcf : c = f.length := by omega
            subst hcf
            rw [List.take_length] at *
            repeat' (first | with_reducible refine inw ?_ | simp (disch := omega) only [go_sem, Nat.reduceEqDiff, ↓reduceIte, reduceCtorEq, Nat.reduceAdd, Nat.reduceMul, Int.reduceToNat, List.reduceReplicate, Nat.reduceLeDiff, Nat.reduceLT, Int.reduceLT, Int.reduceLE, Int.reduceEq, hA.1] | with_reducible refine giv_intro fun _h => ?_ | with_reducible refine alt_intro ?_ fun _h => ?_ | with_reducible refine pickD_nil ?_ | (with_reducible refine brc (fun _h => ?_) fun _h => ?_) <;> first | (exfalso; omega) | simp only [decide_eq_false _h] | simp only [(_h : (_ : Bool) = _)] | simp only [decide_eq_true _h] | skip)
            refine ⟨(i + 1, hh, f ++ [(nx : Int)], f.length + 1, nx + 1), ?_⟩
            dsimp only
            rw [List.take_of_length_le (by simp)]
            exact ⟨⟨by omega, by omega, by simp, by simp; omega, ok, hJ⟩, ⟨⟨by simp, rfl⟩, by omega, by omega⟩, rfl, rfl⟩
        · by_cases hB : nth ms i = 1 ∧ 1 < c
          · have er : repS k (nth ms i) hh (f.take c) nx = some (putAt hh (nth f (c - 2)).toNat (nth f (c - 1)), (f.take c).take (c - 2) ++ [nth f (c - 1)], nx) := by
              rw [repS, if_neg hA, hlt, if_pos hB, hln _ (by omega), hln _ (by omega)]
            have ok := (repS_ok ⟨R1, R2, by rw [hlt]; exact R3, by rw [hlt]; exact R4⟩ er).1
            rw [er] at hJ
            dsimp only at hJ
            have a := R3 (c - 2) (by omega)
            have b := R3 (c - 1) (by omega)
            rw [hln _ (by omega)] at a b
            have e1 : ((c : Int) - 2) = ((c - 2 : Nat) : Int) := by omega
            have e2 : ((c : Int) - 1) = ((c - 1 : Nat) : Int) := by omega
            have et : (putAt f (c - 2) (nth f (c - 1))).take (c - 1) = (f.take c).take (c - 2) ++ [nth f (c - 1)] := by
              rw [putAt, show f.take (c - 2) ++ nth f (c - 1) :: f.drop (c - 2 + 1) = (f.take (c - 2) ++ [nth f (c - 1)]) ++ f.drop (c - 2 + 1) by simp, List.take_left' (by simp; omega), List.take_take, Nat.min_eq_left (by omega)]
            repeat' (first | with_reducible refine inw ?_ | simp (disch := omega) only [go_sem, Nat.reduceEqDiff, ↓reduceIte, reduceCtorEq, Nat.reduceAdd, Nat.reduceMul, Int.reduceToNat, List.reduceReplicate, Nat.reduceLeDiff, Nat.reduceLT, Int.reduceLT, Int.reduceLE, Int.reduceEq, ax_room, hB.1, put_fold1, e1, e2, src_one] | with_reducible refine giv_intro fun _h => ?_ | with_reducible refine alt_intro ?_ fun _h => ?_ | with_reducible refine pickD_nil ?_ | (with_reducible refine brc (fun _h => ?_) fun _h => ?_) <;> first | (exfalso; omega) | simp only [decide_eq_false _h] | simp only [(_h : (_ : Bool) = _)] | simp only [decide_eq_true _h] | skip)
            refine ⟨(i + 1, putAt hh (nth f (c - 2)).toNat (nth f (c - 1)), putAt f (c - 2) (nth f (c - 1)), c - 1, nx), ?_⟩
            dsimp only
            rw [et, putAt_len (l := f) (by omega)]
            exact ⟨⟨by omega, by omega, by omega, by omega, ok, hJ⟩, ⟨⟨rfl, by omega⟩, rfl, by omega⟩, rfl, rfl⟩
          · by_cases hC : nth ms i = 2 ∧ 1 < c
            · have er : repS k (nth ms i) hh (f.take c) nx = some (putAt hh (nth f (c - 1)).toNat (nth f (c - 2)), (f.take c).take (c - 1), nx) := by
                rw [repS, if_neg hA, hlt, if_neg hB, if_pos hC, hln _ (by omega), hln _ (by omega)]
              have ok := (repS_ok ⟨R1, R2, by rw [hlt]; exact R3, by rw [hlt]; exact R4⟩ er).1
              rw [er] at hJ
              dsimp only at hJ
              have a := R3 (c - 2) (by omega)
              have b := R3 (c - 1) (by omega)
              rw [hln _ (by omega)] at a b
              have e1 : ((c : Int) - 2) = ((c - 2 : Nat) : Int) := by omega
              have e2 : ((c : Int) - 1) = ((c - 1 : Nat) : Int) := by omega
              have et : f.take (c - 1) = (f.take c).take (c - 1) := by rw [List.take_take, Nat.min_eq_left (by omega)]
              repeat' (first | with_reducible refine inw ?_ | simp (disch := omega) only [go_sem, Nat.reduceEqDiff, ↓reduceIte, reduceCtorEq, Nat.reduceAdd, Nat.reduceMul, Int.reduceToNat, List.reduceReplicate, Nat.reduceLeDiff, Nat.reduceLT, Int.reduceLT, Int.reduceLE, Int.reduceEq, hC.1, put_fold1, e1, e2] | with_reducible refine giv_intro fun _h => ?_ | with_reducible refine alt_intro ?_ fun _h => ?_ | with_reducible refine pickD_nil ?_ | (with_reducible refine brc (fun _h => ?_) fun _h => ?_) <;> first | (exfalso; omega) | simp only [decide_eq_false _h] | simp only [(_h : (_ : Bool) = _)] | simp only [decide_eq_true _h] | skip)
              refine ⟨(i + 1, putAt hh (nth f (c - 1)).toNat (nth f (c - 2)), f, c - 1, nx), ?_⟩
              dsimp only
              rw [et]
              exact ⟨⟨by omega, by omega, by omega, by omega, ok, hJ⟩, ⟨⟨rfl, rfl⟩, rfl, by omega⟩, rfl, rfl⟩
            · have er : repS k (nth ms i) hh (f.take c) nx = none := by rw [repS, if_neg hA, hlt, if_neg hB, if_neg hC]
              rw [er] at hJ
              rw [repE, hJ]
              repeat' (first | with_reducible refine inw ?_ | simp (disch := omega) only [go_sem, Nat.reduceEqDiff, ↓reduceIte, reduceCtorEq, Nat.reduceAdd, Nat.reduceMul, Int.reduceToNat, List.reduceReplicate, Nat.reduceLeDiff, Nat.reduceLT, Int.reduceLT, Int.reduceLE, Int.reduceEq] | with_reducible refine giv_intro fun _h => ?_ | with_reducible refine alt_intro ?_ fun _h => ?_ | with_reducible refine pickD_nil ?_ | (with_reducible refine brc (fun _h => ?_) fun _h => ?_) <;> first | (exfalso; omega) | simp only [decide_eq_false _h] | simp only [(_h : (_ : Bool) = _)] | simp only [decide_eq_true _h] | skip)
              all_goals first
                | rfl
                | (exfalso; first | exact hA ⟨by assumption, by omega⟩ | exact hB ⟨by assumption, by omega⟩ | exact hC ⟨by assumption, by omega⟩)
      · rw [List.drop_eq_nil_of_le (by omega), repF] at hJ
        rw [repE, hJ]
        dsimp only
        rw [hlt]
        by_cases x1 : nx < k ∨ 1 < c
        · rw [if_pos x1]
          repeat' (first | with_reducible refine inw ?_ | simp (disch := omega) only [go_sem, Nat.reduceEqDiff, ↓reduceIte, reduceCtorEq, Nat.reduceAdd, Nat.reduceMul, Int.reduceToNat, List.reduceReplicate, Nat.reduceLeDiff, Nat.reduceLT, Int.reduceLT, Int.reduceLE, Int.reduceEq] | with_reducible refine giv_intro fun _h => ?_ | with_reducible refine alt_intro ?_ fun _h => ?_ | with_reducible refine pickD_nil ?_ | (with_reducible refine brc (fun _h => ?_) fun _h => ?_) <;> first | (exfalso; omega) | simp only [decide_eq_false _h] | simp only [(_h : (_ : Bool) = _)] | simp only [decide_eq_true _h] | skip)
          all_goals first
            | rfl
            | (exfalso; omega)
        · rw [if_neg x1]
          by_cases x2 : 0 < k
          · have hc0 := R4 (by omega)
            have b := R3 0 hc0
            rw [hln 0 hc0] at b
            rw [if_pos x2, hln 0 hc0]
            have eh := head_cells (l := f) (i := 0) (by omega)
            rw [List.drop_zero] at eh
            subst R1
            have hpl := putAt_len (l := hh) (i := (nth f 0).toNat) (by omega) (-1)
            repeat' (first | with_reducible refine inw ?_ | simp (disch := omega) only [go_sem, Nat.reduceEqDiff, ↓reduceIte, reduceCtorEq, Nat.reduceAdd, Nat.reduceMul, Int.reduceToNat, List.reduceReplicate, Nat.reduceLeDiff, Nat.reduceLT, Int.reduceLT, Int.reduceLE, Int.reduceEq, put_fold1, eh, hpl] | with_reducible refine giv_intro fun _h => ?_ | with_reducible refine alt_intro ?_ fun _h => ?_ | with_reducible refine pickD_nil ?_ | (with_reducible refine brc (fun _h => ?_) fun _h => ?_) <;> first | (exfalso; omega) | simp only [decide_eq_false _h] | simp only [(_h : (_ : Bool) = _)] | simp only [decide_eq_true _h] | skip)
          · rw [if_neg x2]
            subst R1
            repeat' (first | with_reducible refine inw ?_ | simp (disch := omega) only [go_sem, Nat.reduceEqDiff, ↓reduceIte, reduceCtorEq, Nat.reduceAdd, Nat.reduceMul, Int.reduceToNat, List.reduceReplicate, Nat.reduceLeDiff, Nat.reduceLT, Int.reduceLT, Int.reduceLE, Int.reduceEq] | with_reducible refine giv_intro fun _h => ?_ | with_reducible refine alt_intro ?_ fun _h => ?_ | with_reducible refine pickD_nil ?_ | (with_reducible refine brc (fun _h => ?_) fun _h => ?_) <;> first | (exfalso; omega) | simp only [decide_eq_false _h] | simp only [(_h : (_ : Bool) = _)] | simp only [decide_eq_true _h] | skip)
end Go.Proofs.Ytkedbkdbnmmkhaa.Ev

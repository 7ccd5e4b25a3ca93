/- HyphFinds: the law. -/
import Derived.Test.YtfihpbeihlpfcaaZFnOr
set_option linter.unusedVariables false
set_option linter.unusedSimpArgs false
namespace Go.Proofs.Ytfihpbeihlpfcaa.Ev
open Go Go.Proofs

def inB (x : Str) (l : List Str) : Bool := l.any (fun y => decide (y = x))
/-- ablaut/ablautref01.In: 2 parameters, 0 captured -/
def s10 : SC := .seq (.reg [o1 4 (.mv (cB false))])
  (.seq (.seq (.reg [o1 5 (.mv (cI 0))])
    (.block 0 (.loop (.seq (.seq (.reg [o1 6 (.mv (.t 5)),
         o1 7 (.mv (.t 1)),
         o1 8 (.lenL (.t 7)),
         o1 9 (.bin .lss (.t 6) (.t 8))])
        (.cond (.t 9) (.skip) (.exit 0)))
       (.seq (.block 1 (.seq (.reg [o1 12 (.mv (.t 1)),
           o1 13 (.mv (.t 5)),
           o1 14 (.iaddr 1 (.t 12) (.t 13)),
           o1 15 (.load none (.t 14)),
           o1 16 (.mv (.t 0)),
           o1 17 (.bin .eql (.t 15) (.t 16))])
          (.cond (.t 17) (.seq (.reg [o1 4 (.mv (cB true))])
            (.ret)) (.skip))))
        (.reg [o1 10 (.mv (.t 5)),
         o1 11 (.bin .add (.t 10) (cI 1)),
         o1 5 (.mv (.t 11))]))))))
   (.seq (.reg [o1 4 (.mv (cB false))])
    (.ret)))
theorem s10_ok : lookF Try.prog 10 = some (s10, 18, [.tmp 4]) := by kernel_rfl
theorem rIn_ok (x : Str) (l : List Str) : Fn P 10 [strA x, sl l] (boolA (inB x l)) := by
  (refine fn_look s10_ok (by simp) (by intro k; simp only [go_sem, Nat.reduceEqDiff, ↓reduceIte, reduceCtorEq, Nat.reduceAdd, Nat.reduceMul, Int.reduceToNat, List.reduceReplicate, Nat.reduceLeDiff, Nat.reduceLT, Int.reduceLT, Int.reduceLE, Int.reduceEq]) fun S hS => cwp_sound _ _ _ _ ?_; simp (maxSteps := 900000) (disch := omega) only [s10, go_sem, Nat.reduceEqDiff, ↓reduceIte, reduceCtorEq, Nat.reduceAdd, Nat.reduceMul, Int.reduceToNat, List.reduceReplicate, Nat.reduceLeDiff, Nat.reduceLT, Int.reduceLT, Int.reduceLE, Int.reduceEq])
  (refine loopC hS [0, 1] (by simp only [go_sem, Nat.reduceEqDiff, ↓reduceIte, reduceCtorEq, Nat.reduceAdd, Nat.reduceMul, Int.reduceToNat, List.reduceReplicate, Nat.reduceLeDiff, Nat.reduceLT, Int.reduceLT, Int.reduceLE, Int.reduceEq]; try rfl) (fun (i : Nat) => [(5, intA i)]) (fun (i : Nat) => []) (fun (i : Nat) => i ≤ l.length ∧ ∀ j, j < i → nth l j ≠ x) (fun (i : Nat) => l.length - i) (0) ?_ (by intro s; first | (simp only [List.length_cons, List.length_nil]; done) | rfl | (rcases s with ⟨_, _⟩; rfl) | (rcases s with ⟨_, _, _⟩; rfl) | (rcases s with ⟨_, _, _, _⟩; rfl) | (rcases s with ⟨_, _, _, _, _⟩; rfl)) ?_)
  · simp (maxSteps := 900000) (disch := omega) only [go_sem, Nat.reduceEqDiff, ↓reduceIte, reduceCtorEq, Nat.reduceAdd, Nat.reduceMul, Int.reduceToNat, List.reduceReplicate, Nat.reduceLeDiff, Nat.reduceLT, Int.reduceLT, Int.reduceLE, Int.reduceEq]
    exact ⟨Nat.zero_le _, fun j hj => absurd hj (Nat.not_lt_zero _)⟩
  rintro i ⟨hi, hI⟩
  replace hi : i ≤ l.length := hi
  replace hI : ∀ j, j < i → nth l j ≠ x := hI
  by_cases hil : i < l.length
  · have yes : nth l i = x → inB x l = true := fun e => any_yes hil (by rw [← nth_eq hil]; exact decide_eq_true e)
    repeat' (first | with_reducible refine inw ?_ | simp (maxSteps := 900000) (disch := omega) only [go_sem, Nat.reduceEqDiff, ↓reduceIte, reduceCtorEq, Nat.reduceAdd, Nat.reduceMul, Int.reduceToNat, List.reduceReplicate, Nat.reduceLeDiff, Nat.reduceLT, Int.reduceLT, Int.reduceLE, Int.reduceEq] | with_reducible refine pickB_f ?_ | with_reducible refine giv_intro fun _h => ?_ | with_reducible refine alt_intro ?_ fun _h => ?_ | with_reducible refine pickD_nil ?_ | (with_reducible refine brc (fun _h => ?_) fun _h => ?_) <;> first | (exfalso; omega) | simp only [decide_eq_false _h] | simp only [(_h : (_ : Bool) = _)] | simp only [decide_eq_true _h] | skip)
    · exact (yes _h).symm
    · refine ⟨i + 1, ⟨by omega, by omega, fun j hj => ?_⟩, by omega⟩
      rcases Nat.lt_or_ge j i with h | h
      · exact hI j h
      · obtain rfl : j = i := by omega
        exact _h
  · have no : inB x l = false := any_no fun j hj => by rw [← nth_eq hj]; exact decide_eq_false (hI j (by omega))
    repeat' (first | with_reducible refine inw ?_ | simp (maxSteps := 900000) (disch := omega) only [go_sem, Nat.reduceEqDiff, ↓reduceIte, reduceCtorEq, Nat.reduceAdd, Nat.reduceMul, Int.reduceToNat, List.reduceReplicate, Nat.reduceLeDiff, Nat.reduceLT, Int.reduceLT, Int.reduceLE, Int.reduceEq] | with_reducible refine pickB_f ?_ | with_reducible refine giv_intro fun _h => ?_ | with_reducible refine alt_intro ?_ fun _h => ?_ | with_reducible refine pickD_nil ?_ | (with_reducible refine brc (fun _h => ?_) fun _h => ?_) <;> first | (exfalso; omega) | simp only [decide_eq_false _h] | simp only [(_h : (_ : Bool) = _)] | simp only [decide_eq_true _h] | skip)
    exact no.symm
/-- ablaut/ablautlaw24.HyphFinds: 1 parameters, 0 captured -/
def s3 : SC := .seq (.reg [o1 1 (.box 25 2 (.t 0)),
   o1 2 (.mv (cB false))])
  (.seq (.seq (.reg [o1 12 (.load (some 2) (.t 1)),
     o1 13 (.buildSl 25 2 1 [(.slice none 0 0), (.slice none 0 0)] [(0, 2, (.t 12))]),
     o1 14 (.call (.f 8) [(.t 13)]),
     o1 15 (.mv (.t 14)),
     oF 16 (.faddr 0 (.t 1)) 15,
     oF 17 (.load none (.t 16)) 15,
     oF 18 (.call (.f 9) [(.t 17)]) 15,
     oF 19 (.bin .neq (.t 18) (cI 0)) 15,
     o1 20 (.pick (.t 15) (cB true) (.t 19)),
     o1 21 (.mv (.t 20)),
     oF 22 (.faddr 0 (.t 1)) 21,
     oF 23 (.load none (.t 22)) 21,
     oF 24 (.lenL (.t 23)) 21,
     oF 25 (.bin .lss (.t 24) (cI 2)) 21,
     o1 26 (.pick (.t 21) (cB true) (.t 25)),
     o1 27 (.mv (.t 26)),
     oF 28 (.faddr 0 (.t 1)) 27,
     oF 29 (.load none (.t 28)) 27,
     oF 30 (.lenL (.t 29)) 27,
     oF 31 (.bin .gtr (.t 30) (cI 50)) 27,
     o1 32 (.pick (.t 27) (cB true) (.t 31)),
     o1 33 (.mv (.t 32)),
     oF 34 (.faddr 0 (.t 1)) 33,
     oF 35 (.load none (.t 34)) 33,
     oF 36 (.call (.f 10) [(.c (.string ⟨#[46]⟩)), (.t 35)]) 33,
     o1 37 (.pick (.t 33) (cB true) (.t 36))])
    (.cond (.t 37) (.seq (.reg [o1 38 (.call (.f 11) []),
       o1 2 (.mv (.t 38))])
      (.ret)) (.skip)))
   (.seq (.regH [(9, 1), (3, 1), (33, 2)] [(true, none, o1 40 (.faddr 0 (.t 1))),
     (true, none, o1 41 (.load none (.t 40))),
     (true, none, o1 43 (.buildSl 9 1 1 [(.string ⟨#[]⟩)] [(0, 1, (.c (.string ⟨#[46]⟩)))])),
     (true, none, o1 45 (.faddr 0 (.t 1))),
     (true, none, o1 46 (.load none (.t 45))),
     (true, none, o1 47 (.lenL (.t 46))),
     (true, none, o1 48 (.bin .add (.t 47) (cI 3))),
     (true, (some 0), o1 39 (.buildSl 9 1 1 [(.string ⟨#[]⟩)] [(0, 1, (.c (.string ⟨#[46]⟩)))])),
     (true, none, o1 42 (.app 9 1 16 (.t 39) (.t 41))),
     (true, none, o1 44 (.app 9 1 16 (.t 42) (.t 43))),
     (true, (some 1), o1 49 (.mksl 3 1 8 [(.int .i64 0)] (.t 48) (.t 48))),
     (false, none, o1 50 (.build [(.slice none 0 0), (.slice none 0 0)] [(0, 1, (.t 44)), (1, 1, (.t 49))])),
     (true, (some 2), o1 3 (.alloc 33 2 [(.slice none 0 0), (.slice none 0 0)])),
     (false, none, o0 (.store 2 (.t 3) (.t 50)))])
    (.seq (.reg [o1 4 (.mv (.c (.slice none 0 0)))])
     (.seq (.seq (.reg [o1 5 (.mv (cI 1))])
       (.block 0 (.loop (.seq (.seq (.reg [o1 51 (.mv (.t 5)),
            o1 52 (.faddr 0 (.t 1)),
            o1 53 (.load none (.t 52)),
            o1 54 (.lenL (.t 53)),
            o1 55 (.bin .lss (.t 51) (.t 54))])
           (.cond (.t 55) (.skip) (.exit 0)))
          (.seq (.block 1 (.seq (.reg [o1 58 (.mv (.t 5)),
              o1 59 (.bin .rem (.t 58) (cI 3)),
              o1 60 (.bin .neq (.t 59) (cI 0))])
             (.cond (.t 60) (.seq (.reg [o1 61 (.faddr 1 (.t 3)),
                o1 62 (.load none (.t 61)),
                o1 63 (.mv (.t 5)),
                o1 64 (.bin .add (.t 63) (cI 1)),
                o1 65 (.mv (.t 5)),
                o1 66 (.bin .rem (.t 65) (cI 4)),
                o1 67 (.bin .mul (cI 2) (.t 66)),
                o1 68 (.bin .add (cI 1) (.t 67)),
                o1 69 (.iaddr 1 (.t 62) (.t 64)),
                o0 (.store 1 (.t 69) (.t 68))])
               (.reg [o1 70 (.mv (.t 4)),
                o1 71 (.mv (.t 5)),
                o1 72 (.buildSl 3 1 1 [(.int .i64 0)] [(0, 1, (.t 71))]),
                o1 73 (.app 3 1 8 (.t 70) (.t 72)),
                o1 4 (.mv (.t 73))])) (.skip))))
           (.reg [o1 56 (.mv (.t 5)),
            o1 57 (.bin .add (.t 56) (cI 1)),
            o1 5 (.mv (.t 57))]))))))
      (.seq (.reg [o1 74 (.load (some 2) (.t 3)),
        o1 75 (.buildSl 33 2 1 [(.slice none 0 0), (.slice none 0 0)] [(0, 2, (.t 74))]),
        o1 76 (.build [(.int .i64 0), (.int .i64 0), (.slice none 0 0), (.slice none 0 0), (.slice none 0 0)] [(0, 1, (cI 1)), (1, 1, (cI 1)), (2, 1, (.t 75))]),
        o1 6 (.alloc 37 5 [(.int .i64 0), (.int .i64 0), (.slice none 0 0), (.slice none 0 0), (.slice none 0 0)]),
        o0 (.store 5 (.t 6) (.t 76))])
       (.seq (.reg [o1 78 (.load (some 5) (.t 6)),
         o1 79 (.faddr 0 (.t 1)),
         o1 80 (.load none (.t 79)),
         o1 81 (.call (.f 12) [(.t 78), (.t 80)]),
         o1 77 (.mv (.t 81)),
         o1 82 (.ext (.t 77) 0),
         o1 83 (.ext (.t 77) 1),
         o1 7 (.mv (.t 82)),
         o1 8 (.mv (.t 83))])
        (.seq (.regG [(true, o1 84 (.faddr 0 (.t 1))),
          (true, o1 85 (.load none (.t 84))),
          (true, o1 87 (.faddr 0 (.t 1))),
          (true, o1 88 (.load none (.t 87))),
          (true, o1 89 (.iaddr 1 (.t 88) (cI 0))),
          (true, o1 90 (.load none (.t 89))),
          (true, o1 91 (.buildSl 9 1 1 [(.string ⟨#[]⟩)] [(0, 1, (.t 90))])),
          (true, o1 86 (.app 9 1 16 (.c (.slice none 0 0)) (.t 85))),
          (false, o1 92 (.app 9 1 16 (.t 86) (.t 91))),
          (false, o1 9 (.mv (.t 92)))])
         (.seq (.reg [o1 94 (.load (some 5) (.t 6)),
           o1 95 (.mv (.t 9)),
           o1 96 (.call (.f 12) [(.t 94), (.t 95)]),
           o1 93 (.mv (.t 96)),
           o1 97 (.ext (.t 93) 0),
           o1 98 (.ext (.t 93) 1),
           o1 10 (.mv (.t 97)),
           o1 11 (.mv (.t 98))])
          (.seq (.reg [o1 99 (.mv (.t 8)),
            o1 100 (.bin .eql (.t 99) (cI 0)),
            o1 101 (.mv (.t 100)),
            oT 102 (.mv (.t 7)) 101,
            oT 103 (.mv (.t 4)) 101,
            oT 104 (.call (.f 13) [(.t 102), (.t 103)]) 101,
            o1 105 (.pick (.t 101) (.t 104) (cB false)),
            o1 106 (.mv (.t 105)),
            oT 107 (.mv (.t 11)) 106,
            oT 108 (.bin .eql (.t 107) (cI 0)) 106,
            o1 109 (.pick (.t 106) (.t 108) (cB false)),
            o1 110 (.mv (.t 109)),
            oT 111 (.mv (.t 10)) 110,
            oT 112 (.lenL (.t 111)) 110,
            oT 113 (.bin .eql (.t 112) (cI 0)) 110,
            o1 114 (.pick (.t 110) (.t 113) (cB false)),
            o1 115 (.mv (.t 114)),
            oT 116 (.call (.f 11) []) 115,
            o1 117 (.pick (.t 115) (.t 116) (cB false)),
            o1 2 (.mv (.t 117))])
           (.ret))))))))))
theorem s3_ok : lookF Try.prog 3 = some (s3, 118, [.tmp 2]) := by kernel_rfl
set_option maxHeartbeats 1000000 in
theorem HyphFinds_ok (x : Brk) : Fn P 3 [valA x] (boolA true) := by
  obtain ⟨w, pl⟩ := x
  have c0 := overW_ok [(w, pl)]
  have c1 := refValidateWord_ok w
  have c2 := rIn_ok edgeS w
  have z1 : zcells [Value.slice none 0 0, Value.slice none 0 0] 2 = [nilA, nilA] := rfl
  have z2 : zcells [Value.string ⟨#[]⟩] 1 = [strA ⟨#[]⟩] := rfl
  have z3 : zcells [Value.int .i64 0] 1 = [intA 0] := rfl
  by_cases g1 : wordErr w = 0
  case neg =>
    (refine fn_look s3_ok (by simp) (by intro k; simp only [go_sem, Nat.reduceEqDiff, ↓reduceIte, reduceCtorEq, Nat.reduceAdd, Nat.reduceMul, Int.reduceToNat, List.reduceReplicate, Nat.reduceLeDiff, Nat.reduceLT, Int.reduceLT, Int.reduceLE, Int.reduceEq]) fun S hS => cwp_sound _ _ _ _ ?_; simp (maxSteps := 900000) (disch := omega) only [s3, go_sem, Nat.reduceEqDiff, ↓reduceIte, reduceCtorEq, Nat.reduceAdd, Nat.reduceMul, Int.reduceToNat, List.reduceReplicate, Nat.reduceLeDiff, Nat.reduceLT, Int.reduceLT, Int.reduceLE, Int.reduceEq])
    repeat' (first | with_reducible refine inw ?_ | simp (maxSteps := 900000) (disch := omega) only [go_sem, Nat.reduceEqDiff, ↓reduceIte, reduceCtorEq, Nat.reduceAdd, Nat.reduceMul, Int.reduceToNat, List.reduceReplicate, Nat.reduceLeDiff, Nat.reduceLT, Int.reduceLT, Int.reduceLE, Int.reduceEq, z1] | (with_reducible apply callR_lend (c0)); (focus simp (maxSteps := 900000) (disch := omega) only [go_sem, Nat.reduceEqDiff, ↓reduceIte, reduceCtorEq, Nat.reduceAdd, Nat.reduceMul, Int.reduceToNat, List.reduceReplicate, Nat.reduceLeDiff, Nat.reduceLT, Int.reduceLT, Int.reduceLE, Int.reduceEq, z1] <;> rfl); (focus (rintro _ ⟨_, rfl⟩; rfl)); rintro _ ⟨_, rfl⟩ | (with_reducible apply call (c1)); (focus simp (maxSteps := 900000) (disch := omega) only [go_sem, Nat.reduceEqDiff, ↓reduceIte, reduceCtorEq, Nat.reduceAdd, Nat.reduceMul, Int.reduceToNat, List.reduceReplicate, Nat.reduceLeDiff, Nat.reduceLT, Int.reduceLT, Int.reduceLE, Int.reduceEq, z1] <;> rfl) | (with_reducible apply callR (c1)); (focus simp (maxSteps := 900000) (disch := omega) only [go_sem, Nat.reduceEqDiff, ↓reduceIte, reduceCtorEq, Nat.reduceAdd, Nat.reduceMul, Int.reduceToNat, List.reduceReplicate, Nat.reduceLeDiff, Nat.reduceLT, Int.reduceLT, Int.reduceLE, Int.reduceEq, z1] <;> rfl); rintro _ ⟨_, rfl⟩ | (with_reducible apply call (c2)); (focus simp (maxSteps := 900000) (disch := omega) only [go_sem, Nat.reduceEqDiff, ↓reduceIte, reduceCtorEq, Nat.reduceAdd, Nat.reduceMul, Int.reduceToNat, List.reduceReplicate, Nat.reduceLeDiff, Nat.reduceLT, Int.reduceLT, Int.reduceLE, Int.reduceEq, z1] <;> rfl) | (with_reducible apply callR (c2)); (focus simp (maxSteps := 900000) (disch := omega) only [go_sem, Nat.reduceEqDiff, ↓reduceIte, reduceCtorEq, Nat.reduceAdd, Nat.reduceMul, Int.reduceToNat, List.reduceReplicate, Nat.reduceLeDiff, Nat.reduceLT, Int.reduceLT, Int.reduceLE, Int.reduceEq, z1] <;> rfl); rintro _ ⟨_, rfl⟩ | (with_reducible apply call (known_ok)); (focus simp (maxSteps := 900000) (disch := omega) only [go_sem, Nat.reduceEqDiff, ↓reduceIte, reduceCtorEq, Nat.reduceAdd, Nat.reduceMul, Int.reduceToNat, List.reduceReplicate, Nat.reduceLeDiff, Nat.reduceLT, Int.reduceLT, Int.reduceLE, Int.reduceEq, z1] <;> rfl) | with_reducible refine pickB_f ?_ | with_reducible refine giv_intro fun _h => ?_ | with_reducible refine alt_intro ?_ fun _h => ?_ | with_reducible refine pickD_nil ?_ | (with_reducible refine brc (fun _h => ?_) fun _h => ?_) <;> first | (exfalso; omega) | simp only [decide_eq_false _h] | simp only [(_h : (_ : Bool) = _)] | simp only [decide_eq_true _h] | skip)
    all_goals skip
  rw [g1] at c1
  by_cases g2 : 2 ≤ w.length ∧ w.length ≤ 50
  case neg =>
    (refine fn_look s3_ok (by simp) (by intro k; simp only [go_sem, Nat.reduceEqDiff, ↓reduceIte, reduceCtorEq, Nat.reduceAdd, Nat.reduceMul, Int.reduceToNat, List.reduceReplicate, Nat.reduceLeDiff, Nat.reduceLT, Int.reduceLT, Int.reduceLE, Int.reduceEq]) fun S hS => cwp_sound _ _ _ _ ?_; simp (maxSteps := 900000) (disch := omega) only [s3, go_sem, Nat.reduceEqDiff, ↓reduceIte, reduceCtorEq, Nat.reduceAdd, Nat.reduceMul, Int.reduceToNat, List.reduceReplicate, Nat.reduceLeDiff, Nat.reduceLT, Int.reduceLT, Int.reduceLE, Int.reduceEq])
    repeat' (first | with_reducible refine inw ?_ | simp (maxSteps := 900000) (disch := omega) only [go_sem, Nat.reduceEqDiff, ↓reduceIte, reduceCtorEq, Nat.reduceAdd, Nat.reduceMul, Int.reduceToNat, List.reduceReplicate, Nat.reduceLeDiff, Nat.reduceLT, Int.reduceLT, Int.reduceLE, Int.reduceEq, z1] | (with_reducible apply callR_lend (c0)); (focus simp (maxSteps := 900000) (disch := omega) only [go_sem, Nat.reduceEqDiff, ↓reduceIte, reduceCtorEq, Nat.reduceAdd, Nat.reduceMul, Int.reduceToNat, List.reduceReplicate, Nat.reduceLeDiff, Nat.reduceLT, Int.reduceLT, Int.reduceLE, Int.reduceEq, z1] <;> rfl); (focus (rintro _ ⟨_, rfl⟩; rfl)); rintro _ ⟨_, rfl⟩ | (with_reducible apply call (c1)); (focus simp (maxSteps := 900000) (disch := omega) only [go_sem, Nat.reduceEqDiff, ↓reduceIte, reduceCtorEq, Nat.reduceAdd, Nat.reduceMul, Int.reduceToNat, List.reduceReplicate, Nat.reduceLeDiff, Nat.reduceLT, Int.reduceLT, Int.reduceLE, Int.reduceEq, z1] <;> rfl) | (with_reducible apply callR (c1)); (focus simp (maxSteps := 900000) (disch := omega) only [go_sem, Nat.reduceEqDiff, ↓reduceIte, reduceCtorEq, Nat.reduceAdd, Nat.reduceMul, Int.reduceToNat, List.reduceReplicate, Nat.reduceLeDiff, Nat.reduceLT, Int.reduceLT, Int.reduceLE, Int.reduceEq, z1] <;> rfl); rintro _ ⟨_, rfl⟩ | (with_reducible apply call (c2)); (focus simp (maxSteps := 900000) (disch := omega) only [go_sem, Nat.reduceEqDiff, ↓reduceIte, reduceCtorEq, Nat.reduceAdd, Nat.reduceMul, Int.reduceToNat, List.reduceReplicate, Nat.reduceLeDiff, Nat.reduceLT, Int.reduceLT, Int.reduceLE, Int.reduceEq, z1] <;> rfl) | (with_reducible apply callR (c2)); (focus simp (maxSteps := 900000) (disch := omega) only [go_sem, Nat.reduceEqDiff, ↓reduceIte, reduceCtorEq, Nat.reduceAdd, Nat.reduceMul, Int.reduceToNat, List.reduceReplicate, Nat.reduceLeDiff, Nat.reduceLT, Int.reduceLT, Int.reduceLE, Int.reduceEq, z1] <;> rfl); rintro _ ⟨_, rfl⟩ | (with_reducible apply call (known_ok)); (focus simp (maxSteps := 900000) (disch := omega) only [go_sem, Nat.reduceEqDiff, ↓reduceIte, reduceCtorEq, Nat.reduceAdd, Nat.reduceMul, Int.reduceToNat, List.reduceReplicate, Nat.reduceLeDiff, Nat.reduceLT, Int.reduceLT, Int.reduceLE, Int.reduceEq, z1] <;> rfl) | with_reducible refine pickB_f ?_ | with_reducible refine giv_intro fun _h => ?_ | with_reducible refine alt_intro ?_ fun _h => ?_ | with_reducible refine pickD_nil ?_ | (with_reducible refine brc (fun _h => ?_) fun _h => ?_) <;> first | (exfalso; omega) | simp only [decide_eq_false _h] | simp only [(_h : (_ : Bool) = _)] | simp only [decide_eq_true _h] | skip)
    all_goals skip
  obtain ⟨g2, g3⟩ := g2
  cases g4 : inB edgeS w
  case true =>
    rw [g4] at c2
    (refine fn_look s3_ok (by simp) (by intro k; simp only [go_sem, Nat.reduceEqDiff, ↓reduceIte, reduceCtorEq, Nat.reduceAdd, Nat.reduceMul, Int.reduceToNat, List.reduceReplicate, Nat.reduceLeDiff, Nat.reduceLT, Int.reduceLT, Int.reduceLE, Int.reduceEq]) fun S hS => cwp_sound _ _ _ _ ?_; simp (maxSteps := 900000) (disch := omega) only [s3, go_sem, Nat.reduceEqDiff, ↓reduceIte, reduceCtorEq, Nat.reduceAdd, Nat.reduceMul, Int.reduceToNat, List.reduceReplicate, Nat.reduceLeDiff, Nat.reduceLT, Int.reduceLT, Int.reduceLE, Int.reduceEq])
    repeat' (first | with_reducible refine inw ?_ | simp (maxSteps := 900000) (disch := omega) only [go_sem, Nat.reduceEqDiff, ↓reduceIte, reduceCtorEq, Nat.reduceAdd, Nat.reduceMul, Int.reduceToNat, List.reduceReplicate, Nat.reduceLeDiff, Nat.reduceLT, Int.reduceLT, Int.reduceLE, Int.reduceEq, z1] | (with_reducible apply callR_lend (c0)); (focus simp (maxSteps := 900000) (disch := omega) only [go_sem, Nat.reduceEqDiff, ↓reduceIte, reduceCtorEq, Nat.reduceAdd, Nat.reduceMul, Int.reduceToNat, List.reduceReplicate, Nat.reduceLeDiff, Nat.reduceLT, Int.reduceLT, Int.reduceLE, Int.reduceEq, z1] <;> rfl); (focus (rintro _ ⟨_, rfl⟩; rfl)); rintro _ ⟨_, rfl⟩ | (with_reducible apply call (c1)); (focus simp (maxSteps := 900000) (disch := omega) only [go_sem, Nat.reduceEqDiff, ↓reduceIte, reduceCtorEq, Nat.reduceAdd, Nat.reduceMul, Int.reduceToNat, List.reduceReplicate, Nat.reduceLeDiff, Nat.reduceLT, Int.reduceLT, Int.reduceLE, Int.reduceEq, z1] <;> rfl) | (with_reducible apply callR (c1)); (focus simp (maxSteps := 900000) (disch := omega) only [go_sem, Nat.reduceEqDiff, ↓reduceIte, reduceCtorEq, Nat.reduceAdd, Nat.reduceMul, Int.reduceToNat, List.reduceReplicate, Nat.reduceLeDiff, Nat.reduceLT, Int.reduceLT, Int.reduceLE, Int.reduceEq, z1] <;> rfl); rintro _ ⟨_, rfl⟩ | (with_reducible apply call (c2)); (focus simp (maxSteps := 900000) (disch := omega) only [go_sem, Nat.reduceEqDiff, ↓reduceIte, reduceCtorEq, Nat.reduceAdd, Nat.reduceMul, Int.reduceToNat, List.reduceReplicate, Nat.reduceLeDiff, Nat.reduceLT, Int.reduceLT, Int.reduceLE, Int.reduceEq, z1] <;> rfl) | (with_reducible apply callR (c2)); (focus simp (maxSteps := 900000) (disch := omega) only [go_sem, Nat.reduceEqDiff, ↓reduceIte, reduceCtorEq, Nat.reduceAdd, Nat.reduceMul, Int.reduceToNat, List.reduceReplicate, Nat.reduceLeDiff, Nat.reduceLT, Int.reduceLT, Int.reduceLE, Int.reduceEq, z1] <;> rfl); rintro _ ⟨_, rfl⟩ | (with_reducible apply call (known_ok)); (focus simp (maxSteps := 900000) (disch := omega) only [go_sem, Nat.reduceEqDiff, ↓reduceIte, reduceCtorEq, Nat.reduceAdd, Nat.reduceMul, Int.reduceToNat, List.reduceReplicate, Nat.reduceLeDiff, Nat.reduceLT, Int.reduceLT, Int.reduceLE, Int.reduceEq, z1] <;> rfl) | with_reducible refine pickB_f ?_ | with_reducible refine giv_intro fun _h => ?_ | with_reducible refine alt_intro ?_ fun _h => ?_ | with_reducible refine pickD_nil ?_ | (with_reducible refine brc (fun _h => ?_) fun _h => ?_) <;> first | (exfalso; omega) | simp only [decide_eq_false _h] | simp only [(_h : (_ : Bool) = _)] | simp only [decide_eq_true _h] | skip)
    all_goals skip
  rw [g4] at c2
  have s1 : ∀ S, srcOf S 1 (.ro 1 [strA ⟨#[46]⟩]) = some (1, [strA ⟨#[46]⟩]) := fun _ => rfl
  have eL : 1 + w.length = w.length + 1 := Nat.add_comm ..
  have eN : ((w.length : Int) + 3).toNat = w.length + 3 := by omega
  (refine fn_look s3_ok (by simp) (by intro k; simp only [go_sem, Nat.reduceEqDiff, ↓reduceIte, reduceCtorEq, Nat.reduceAdd, Nat.reduceMul, Int.reduceToNat, List.reduceReplicate, Nat.reduceLeDiff, Nat.reduceLT, Int.reduceLT, Int.reduceLE, Int.reduceEq]) fun S hS => cwp_sound _ _ _ _ ?_; simp (maxSteps := 900000) (disch := omega) only [s3, go_sem, Nat.reduceEqDiff, ↓reduceIte, reduceCtorEq, Nat.reduceAdd, Nat.reduceMul, Int.reduceToNat, List.reduceReplicate, Nat.reduceLeDiff, Nat.reduceLT, Int.reduceLT, Int.reduceLE, Int.reduceEq])
  repeat' (first | with_reducible refine inw ?_ | simp (maxSteps := 900000) (disch := omega) only [go_sem, Nat.reduceEqDiff, ↓reduceIte, reduceCtorEq, Nat.reduceAdd, Nat.reduceMul, Int.reduceToNat, List.reduceReplicate, Nat.reduceLeDiff, Nat.reduceLT, Int.reduceLT, Int.reduceLE, Int.reduceEq, z1, z2, z3, eN, eL, s1, List.isEmpty_cons] | (with_reducible apply callR_lend (c0)); (focus simp (maxSteps := 900000) (disch := omega) only [go_sem, Nat.reduceEqDiff, ↓reduceIte, reduceCtorEq, Nat.reduceAdd, Nat.reduceMul, Int.reduceToNat, List.reduceReplicate, Nat.reduceLeDiff, Nat.reduceLT, Int.reduceLT, Int.reduceLE, Int.reduceEq, z1, z2, z3, eN, eL, s1, List.isEmpty_cons] <;> rfl); (focus (rintro _ ⟨_, rfl⟩; rfl)); rintro _ ⟨_, rfl⟩ | (with_reducible apply call (c1)); (focus simp (maxSteps := 900000) (disch := omega) only [go_sem, Nat.reduceEqDiff, ↓reduceIte, reduceCtorEq, Nat.reduceAdd, Nat.reduceMul, Int.reduceToNat, List.reduceReplicate, Nat.reduceLeDiff, Nat.reduceLT, Int.reduceLT, Int.reduceLE, Int.reduceEq, z1, z2, z3, eN, eL, s1, List.isEmpty_cons] <;> rfl) | (with_reducible apply callR (c1)); (focus simp (maxSteps := 900000) (disch := omega) only [go_sem, Nat.reduceEqDiff, ↓reduceIte, reduceCtorEq, Nat.reduceAdd, Nat.reduceMul, Int.reduceToNat, List.reduceReplicate, Nat.reduceLeDiff, Nat.reduceLT, Int.reduceLT, Int.reduceLE, Int.reduceEq, z1, z2, z3, eN, eL, s1, List.isEmpty_cons] <;> rfl); rintro _ ⟨_, rfl⟩ | (with_reducible apply call (c2)); (focus simp (maxSteps := 900000) (disch := omega) only [go_sem, Nat.reduceEqDiff, ↓reduceIte, reduceCtorEq, Nat.reduceAdd, Nat.reduceMul, Int.reduceToNat, List.reduceReplicate, Nat.reduceLeDiff, Nat.reduceLT, Int.reduceLT, Int.reduceLE, Int.reduceEq, z1, z2, z3, eN, eL, s1, List.isEmpty_cons] <;> rfl) | (with_reducible apply callR (c2)); (focus simp (maxSteps := 900000) (disch := omega) only [go_sem, Nat.reduceEqDiff, ↓reduceIte, reduceCtorEq, Nat.reduceAdd, Nat.reduceMul, Int.reduceToNat, List.reduceReplicate, Nat.reduceLeDiff, Nat.reduceLT, Int.reduceLT, Int.reduceLE, Int.reduceEq, z1, z2, z3, eN, eL, s1, List.isEmpty_cons] <;> rfl); rintro _ ⟨_, rfl⟩ | (with_reducible apply call (known_ok)); (focus simp (maxSteps := 900000) (disch := omega) only [go_sem, Nat.reduceEqDiff, ↓reduceIte, reduceCtorEq, Nat.reduceAdd, Nat.reduceMul, Int.reduceToNat, List.reduceReplicate, Nat.reduceLeDiff, Nat.reduceLT, Int.reduceLT, Int.reduceLE, Int.reduceEq, z1, z2, z3, eN, eL, s1, List.isEmpty_cons] <;> rfl) | with_reducible refine pickB_f ?_ | with_reducible refine giv_intro fun _h => ?_ | with_reducible refine alt_intro ?_ fun _h => ?_ | with_reducible refine pickD_nil ?_ | (with_reducible refine brc (fun _h => ?_) fun _h => ?_) <;> first | (exfalso; omega) | simp only [decide_eq_false _h] | simp only [(_h : (_ : Bool) = _)] | simp only [decide_eq_true _h] | skip)
  refine nil_row 4 3 1 (by simp (maxSteps := 900000) (disch := omega) only [go_sem, Nat.reduceEqDiff, ↓reduceIte, reduceCtorEq, Nat.reduceAdd, Nat.reduceMul, Int.reduceToNat, List.reduceReplicate, Nat.reduceLeDiff, Nat.reduceLT, Int.reduceLT, Int.reduceLE, Int.reduceEq]) ?_
  simp only [List.cons_append, List.nil_append, List.length_cons, List.length_nil, Nat.zero_add, Nat.reduceAdd]
  (refine loopC hS [1, 3] (by simp only [go_sem, Nat.reduceEqDiff, ↓reduceIte, reduceCtorEq, Nat.reduceAdd, Nat.reduceMul, Int.reduceToNat, List.reduceReplicate, Nat.reduceLeDiff, Nat.reduceLT, Int.reduceLT, Int.reduceLE, Int.reduceEq]; try rfl) (fun (i : Nat) => [(4, own S 5 (finA i)), (5, intA i)]) (fun (i : Nat) => [some (.row 25 2 [sl w, sl pl]), none, some (.row 9 1 (strA ⟨#[46]⟩ :: (cellsL w ++ [strA ⟨#[46]⟩]))), rowO 3 (finU w.length i), some (.row 33 2 [.ref (S.nm 2) (w.length + 2) 0 (w.length + 2), .ref (S.nm 3) (w.length + 3) 0 (w.length + 3)]), rowO 3 (finA i)]) (fun (i : Nat) => 1 ≤ i ∧ i ≤ w.length) (fun (i : Nat) => w.length - i) (1) ?_ (by intro s; first | (simp only [List.length_cons, List.length_nil]; done) | rfl | (rcases s with ⟨_, _⟩; rfl) | (rcases s with ⟨_, _, _⟩; rfl) | (rcases s with ⟨_, _, _, _⟩; rfl) | (rcases s with ⟨_, _, _, _, _⟩; rfl)) ?_)
  · simp (maxSteps := 900000) (disch := omega) only [go_sem, Nat.reduceEqDiff, ↓reduceIte, reduceCtorEq, Nat.reduceAdd, Nat.reduceMul, Int.reduceToNat, List.reduceReplicate, Nat.reduceLeDiff, Nat.reduceLT, Int.reduceLT, Int.reduceLE, Int.reduceEq]
    have e1 : finU w.length 1 = List.replicate (w.length + 3) 0 := by rw [finU, if_neg (by omega), finU]
    rw [e1]
    exact ⟨by omega, ⟨rfl, rfl⟩, rfl, rfl⟩
  rintro i ⟨hi1, hi⟩
  replace hi1 : 1 ≤ i := hi1
  replace hi : i ≤ w.length := hi
  have hul := finU_len w.length i
  have hal := finA_len i
  by_cases hil : i < w.length
  · by_cases h3 : i % 3 ≠ 0
    · have hst : finU w.length (i + 1) = (finU w.length i).set (i + 1) (1 + 2 * ((i : Int) % 4)) := by rw [finU, if_pos ⟨hi1, h3⟩]
      have hsa : finA (i + 1) = finA i ++ [(i : Int)] := by rw [finA, if_pos ⟨hi1, h3⟩]
      generalize hU2 : finU w.length (i + 1) = U2 at *
      generalize finU w.length i = U at *
      generalize hA2 : finA (i + 1) = A2 at *
      generalize finA i = A at *
      have r3 : Int.tmod (i : Int) 3 = ((i % 3 : Nat) : Int) := by rw [Int.tmod_eq_emod_of_nonneg (by omega)]; omega
      have r4 : Int.tmod (i : Int) 4 = (i : Int) % 4 := Int.tmod_eq_emod_of_nonneg (by omega)
      have l2 : A2.length = A.length + 1 := by rw [hsa, List.length_append]; rfl
      have e1 : ((i : Int) + 1).toNat = i + 1 := by omega
      repeat' (first | with_reducible refine inw ?_ | simp (maxSteps := 900000) (disch := omega) only [go_sem, Nat.reduceEqDiff, ↓reduceIte, reduceCtorEq, Nat.reduceAdd, Nat.reduceMul, Int.reduceToNat, List.reduceReplicate, Nat.reduceLeDiff, Nat.reduceLT, Int.reduceLT, Int.reduceLE, Int.reduceEq, r3, r4, hul, e1] | with_reducible refine pickB_f ?_ | with_reducible refine giv_intro fun _h => ?_ | with_reducible refine alt_intro ?_ fun _h => ?_ | with_reducible refine pickD_nil ?_ | (with_reducible refine brc (fun _h => ?_) fun _h => ?_) <;> first | (exfalso; omega) | simp only [decide_eq_false _h] | simp only [(_h : (_ : Bool) = _)] | simp only [decide_eq_true _h] | skip)
      all_goals
        refine ⟨i + 1, ⟨by omega, by omega, by omega⟩, ⟨⟨by rw [hA2]; omega, by rw [hA2]; omega⟩, by omega⟩, ?_, by rw [hA2, hsa]⟩
        rw [hU2, hst, ← tset (by omega)]
    · have hst : finU w.length (i + 1) = finU w.length i := by rw [finU, if_neg (fun q => h3 q.2)]
      have hsa : finA (i + 1) = finA i := by rw [finA, if_neg (fun q => h3 q.2)]
      have r3 : Int.tmod (i : Int) 3 = ((i % 3 : Nat) : Int) := by rw [Int.tmod_eq_emod_of_nonneg (by omega)]; omega
      repeat' (first | with_reducible refine inw ?_ | simp (maxSteps := 900000) (disch := omega) only [go_sem, Nat.reduceEqDiff, ↓reduceIte, reduceCtorEq, Nat.reduceAdd, Nat.reduceMul, Int.reduceToNat, List.reduceReplicate, Nat.reduceLeDiff, Nat.reduceLT, Int.reduceLT, Int.reduceLE, Int.reduceEq, r3] | with_reducible refine pickB_f ?_ | with_reducible refine giv_intro fun _h => ?_ | with_reducible refine alt_intro ?_ fun _h => ?_ | with_reducible refine pickD_nil ?_ | (with_reducible refine brc (fun _h => ?_) fun _h => ?_) <;> first | (exfalso; omega) | simp only [decide_eq_false _h] | simp only [(_h : (_ : Bool) = _)] | simp only [decide_eq_true _h] | skip)
      all_goals exact ⟨i + 1, ⟨by omega, by omega, by omega⟩, ⟨⟨by rw [hsa], by rw [hsa]⟩, by omega⟩, by rw [hst], by rw [hsa]⟩
  · obtain rfl : i = w.length := by omega
    have c3 := hBreaksF_ok (finH w) w
    have c4 := hBreaksF_ok (finH w) (w ++ [nth w 0])
    have he : ∀ x ∈ w, x ≠ edgeS := fun x hx e => by
      have : inB edgeS w = true := List.any_eq_true.2 ⟨x, hx, decide_eq_true e⟩
      rw [g4] at this; cases this
    rw [fin_yes he g1 g2 g3] at c3
    rw [fin_no he g1 g2 g3] at c4
    have c5 := sameInts_ok (finA w.length) (finA w.length)
    rw [decide_eq_true rfl] at c5
    have q1 : AV.ro (w.length + 2) ((strA ⟨#[46]⟩ :: (cellsL w ++ [strA ⟨#[46]⟩])).take ((w.length + 2) * 1)) = sl (finP w).1 := by
      rw [List.take_of_length_le (by simp [cellsL_len])]
      show AV.ro _ _ = AV.ro _ _
      rw [finP_len]
      show _ = AV.ro _ (cellsL ([edgeS] ++ w ++ [edgeS]))
      exact congrArg _ (by rw [← cellsL_app, ← cellsL_app]; rfl)
    have q2 : AV.ro (w.length + 3) ((cellsL (finU w.length w.length)).take ((w.length + 3) * 1)) = sl (finP w).2 := by
      rw [List.take_of_length_le (by simp [cellsL_len, finU_len])]
      show AV.ro _ _ = AV.ro _ _
      rw [show (finP w).2 = finU w.length w.length from rfl, finU_len]
    refine freezeCell 4 2 0 33 2 9 1 (by rfl) (by rfl) (by rfl) (by simp [cellsL_len]) (by omega) (by omega) ?_
    refine freezeCell 4 3 1 33 2 3 1 (by rfl) (by rfl) (by rfl) (by simp [cellsL_len, finU_len]) (by omega) (by omega) ?_
    simp only [List.set_cons_zero, List.set_cons_succ, q1, q2]
    have z5 : zcells [Value.slice none 0 0, Value.slice none 0 0] 2 = [nilA, nilA] := rfl
    refine swp_seq (in_seq ?_)
    repeat' (first | simp (maxSteps := 900000) (disch := omega) only [go_sem, Nat.reduceEqDiff, ↓reduceIte, reduceCtorEq, Nat.reduceAdd, Nat.reduceMul, Int.reduceToNat, List.reduceReplicate, Nat.reduceLeDiff, Nat.reduceLT, Int.reduceLT, Int.reduceLE, Int.reduceEq] | with_reducible refine pickB_f ?_ | with_reducible refine giv_intro fun _h => ?_ | with_reducible refine alt_intro ?_ fun _h => ?_ | with_reducible refine pickD_nil ?_ | (with_reducible refine brc (fun _h => ?_) fun _h => ?_) <;> first | (exfalso; omega) | simp only [decide_eq_false _h] | simp only [(_h : (_ : Bool) = _)] | simp only [decide_eq_true _h] | skip)
    refine swp_seq (in_reg ?_)
    repeat' (first | simp (maxSteps := 900000) (disch := omega) only [go_sem, Nat.reduceEqDiff, ↓reduceIte, reduceCtorEq, Nat.reduceAdd, Nat.reduceMul, Int.reduceToNat, List.reduceReplicate, Nat.reduceLeDiff, Nat.reduceLT, Int.reduceLT, Int.reduceLE, Int.reduceEq, z5] | with_reducible refine pickB_f ?_ | with_reducible refine giv_intro fun _h => ?_ | with_reducible refine alt_intro ?_ fun _h => ?_ | with_reducible refine pickD_nil ?_ | (with_reducible refine brc (fun _h => ?_) fun _h => ?_) <;> first | (exfalso; omega) | simp only [decide_eq_false _h] | simp only [(_h : (_ : Bool) = _)] | simp only [decide_eq_true _h] | skip)
    refine freezeCell 7 6 2 37 5 33 2 (by rfl) (by rfl) (by rfl) (by rfl) (by omega) (by omega) ?_
    have q3 : AV.ro 1 (([sl (finP w).1, sl (finP w).2] : List AV).take (1 * 2)) = sl [finP w] := rfl
    simp only [List.set_cons_zero, List.set_cons_succ, q3]
    have hd : (cellsL w).head? = some (strA (nth w 0)) := by
      cases w with
      | nil => simp at g2
      | cons x w => rfl
    refine swp_seq (in_reg ?_)
    repeat' (first | simp (maxSteps := 900000) (disch := omega) only [go_sem, Nat.reduceEqDiff, ↓reduceIte, reduceCtorEq, Nat.reduceAdd, Nat.reduceMul, Int.reduceToNat, List.reduceReplicate, Nat.reduceLeDiff, Nat.reduceLT, Int.reduceLT, Int.reduceLE, Int.reduceEq, z2] | (with_reducible apply call (c3)); (focus simp (maxSteps := 900000) (disch := omega) only [go_sem, Nat.reduceEqDiff, ↓reduceIte, reduceCtorEq, Nat.reduceAdd, Nat.reduceMul, Int.reduceToNat, List.reduceReplicate, Nat.reduceLeDiff, Nat.reduceLT, Int.reduceLT, Int.reduceLE, Int.reduceEq, z2] <;> rfl) | with_reducible refine pickB_f ?_ | with_reducible refine giv_intro fun _h => ?_ | with_reducible refine alt_intro ?_ fun _h => ?_ | with_reducible refine pickD_nil ?_ | (with_reducible refine brc (fun _h => ?_) fun _h => ?_) <;> first | (exfalso; omega) | simp only [decide_eq_false _h] | simp only [(_h : (_ : Bool) = _)] | simp only [decide_eq_true _h] | skip)
    refine swp_seq (cwp_sound _ _ _ _ ?_)
    have s2 : ∀ S, srcOf S 1 (.ro 1 [strA (nth w 0)]) = some (1, [strA (nth w 0)]) := fun _ => rfl
    repeat' (first | simp (maxSteps := 900000) (disch := omega) only [go_sem, Nat.reduceEqDiff, ↓reduceIte, reduceCtorEq, Nat.reduceAdd, Nat.reduceMul, Int.reduceToNat, List.reduceReplicate, Nat.reduceLeDiff, Nat.reduceLT, Int.reduceLT, Int.reduceLE, Int.reduceEq, z2, hd, s2] | with_reducible refine pickB_f ?_ | with_reducible refine giv_intro fun _h => ?_ | with_reducible refine alt_intro ?_ fun _h => ?_ | with_reducible refine pickD_nil ?_ | (with_reducible refine brc (fun _h => ?_) fun _h => ?_) <;> first | (exfalso; omega) | simp only [decide_eq_false _h] | simp only [(_h : (_ : Bool) = _)] | simp only [decide_eq_true _h] | skip)
    refine freezeF 9 8 9 (w ++ [nth w 0]) (by simp (maxSteps := 900000) (disch := omega) only [go_sem, Nat.reduceEqDiff, ↓reduceIte, reduceCtorEq, Nat.reduceAdd, Nat.reduceMul, Int.reduceToNat, List.reduceReplicate, Nat.reduceLeDiff, Nat.reduceLT, Int.reduceLT, Int.reduceLE, Int.reduceEq]; simp) (by simp (maxSteps := 900000) (disch := omega) only [go_sem, Nat.reduceEqDiff, ↓reduceIte, reduceCtorEq, Nat.reduceAdd, Nat.reduceMul, Int.reduceToNat, List.reduceReplicate, Nat.reduceLeDiff, Nat.reduceLT, Int.reduceLT, Int.reduceLE, Int.reduceEq]) (by simp) ?_
    simp only [List.set_cons_zero, List.set_cons_succ]
    repeat' (first | with_reducible refine inw ?_ | simp (maxSteps := 900000) (disch := omega) only [go_sem, Nat.reduceEqDiff, ↓reduceIte, reduceCtorEq, Nat.reduceAdd, Nat.reduceMul, Int.reduceToNat, List.reduceReplicate, Nat.reduceLeDiff, Nat.reduceLT, Int.reduceLT, Int.reduceLE, Int.reduceEq, z2] | (with_reducible apply call (c4)); (focus simp (maxSteps := 900000) (disch := omega) only [go_sem, Nat.reduceEqDiff, ↓reduceIte, reduceCtorEq, Nat.reduceAdd, Nat.reduceMul, Int.reduceToNat, List.reduceReplicate, Nat.reduceLeDiff, Nat.reduceLT, Int.reduceLT, Int.reduceLE, Int.reduceEq, z2] <;> rfl) | (with_reducible apply call_lend (c5)); (focus simp (maxSteps := 900000) (disch := omega) only [go_sem, Nat.reduceEqDiff, ↓reduceIte, reduceCtorEq, Nat.reduceAdd, Nat.reduceMul, Int.reduceToNat, List.reduceReplicate, Nat.reduceLeDiff, Nat.reduceLT, Int.reduceLT, Int.reduceLE, Int.reduceEq, z2] <;> rfl); (focus rfl) | (with_reducible apply call (known_ok)); (focus simp (maxSteps := 900000) (disch := omega) only [go_sem, Nat.reduceEqDiff, ↓reduceIte, reduceCtorEq, Nat.reduceAdd, Nat.reduceMul, Int.reduceToNat, List.reduceReplicate, Nat.reduceLeDiff, Nat.reduceLT, Int.reduceLT, Int.reduceLE, Int.reduceEq, z2] <;> rfl) | with_reducible refine pickB_f ?_ | with_reducible refine giv_intro fun _h => ?_ | with_reducible refine alt_intro ?_ fun _h => ?_ | with_reducible refine pickD_nil ?_ | (with_reducible refine brc (fun _h => ?_) fun _h => ?_) <;> first | (exfalso; omega) | simp only [decide_eq_false _h] | simp only [(_h : (_ : Bool) = _)] | simp only [decide_eq_true _h] | skip)
    all_goals skip
end Go.Proofs.Ytfihpbeihlpfcaa.Ev

/- What is written at a break. -/
import Derived.Test.YtfihpbeihlpfcaaZFnOo
set_option linter.unusedVariables false
set_option linter.unusedSimpArgs false
namespace Go.Proofs.Ytfihpbeihlpfcaa.Ev
open Go Go.Proofs

def fitB (w : List Str) (a : Int) (t : Trn) : Bool := decide (0 ≤ a - t.2.2.2) && decide ((a - t.2.2.2) + t.1.length ≤ w.length) && decide ((w.drop (a - t.2.2.2).toNat).take t.1.length = t.1)
def cutF (w : List Str) (a : Int) (t : Trn) : List Str × List Str := (w.take (a - t.2.2.2).toNat ++ t.2.1, t.2.2.1 ++ w.drop ((a - t.2.2.2).toNat + t.1.length))
def cutT (ts : List Trn) (w : List Str) (a : Int) : List Str × List Str := match ts.find? (fitB w a) with | some t => cutF w a t | none => (w.take a.toNat, w.drop a.toNat)
def brkF (h : Book) (w : List Str) (a : Int) : List Str × List Str × Int := if askE h w ≠ 0 then ([], [], askE h w) else if hasI (brT h w) a = true then ((cutT h.2.2.2.2 w a).1, (cutT h.2.2.2.2 w a).2, 0) else ([], [], 4)
theorem find_yes {α : Type} {k : Nat} [Enc α k] {l : List α} {p : α → Bool} {i : Nat} (h : i < l.length) (hp : p (nth l i) = true) (hI : ∀ j, j < i → p (nth l j) = false) : l.find? p = some (nth l i) := by
  rw [List.find?_eq_some_iff_getElem]
  refine ⟨hp, i, h, (nth_eq h).symm, fun j hj => ?_⟩
  rw [← nth_eq (by omega), hI j hj]; rfl
theorem find_no {α : Type} {k : Nat} [Enc α k] {l : List α} {p : α → Bool} (hI : ∀ j, j < l.length → p (nth l j) = false) : l.find? p = none := by
  rw [List.find?_eq_none]
  intro x hx
  obtain ⟨j, hj, rfl⟩ := List.getElem_of_mem hx
  rw [← nth_eq hj, hI j hj]; decide
theorem trn_at {h : Book} (hv : vErr h = 0) {i : Nat} (hi : i < h.2.2.2.2.length) : (1 ≤ (nth h.2.2.2.2 i).2.2.2 ∧ (nth h.2.2.2.2 i).2.2.2 < ((nth h.2.2.2.2 i).1.length : Int)) ∧ (nth h.2.2.2.2 i).1.length ≤ 60 ∧ (nth h.2.2.2.2 i).2.1.length ≤ 60 ∧ (nth h.2.2.2.2 i).2.2.1.length ≤ 60 := by
  obtain ⟨_, _, _, _, _, _, hb, hW⟩ := book_facts hv
  simp only [bookB, Bool.and_eq_true] at hb
  have h2 := (List.all_eq_true.1 hb.2) i (List.mem_range.2 hi)
  simp only [trnB, Bool.and_eq_true, decide_eq_true_eq] at h2
  have hm : ∀ x ∈ [(nth h.2.2.2.2 i).1, (nth h.2.2.2.2 i).2.1, (nth h.2.2.2.2 i).2.2.1], x.length ≤ 60 := fun x hx => wordErr_len (wordsErr_mem hW x (by
    simp only [bookW, List.mem_append, List.mem_flatMap]
    exact .inr (.inr ⟨_, nth_mem hi, hx⟩)))
  exact ⟨⟨h2.1.2, h2.2⟩, hm _ (by simp), hm _ (by simp), hm _ (by simp)⟩
theorem hasI_in {l : List Int} {a : Int} (h : hasI l a = true) : a ∈ l := by
  obtain ⟨x, hx, e⟩ := List.any_eq_true.1 h
  exact (of_decide_eq_true e) ▸ hx
/-- ablaut/ablautref01.Join: 2 parameters, 0 captured -/
def s31 : SC := .seq (.reg [o1 4 (.mv (.c (.slice none 0 0)))])
  (.seq (.reg [o1 5 (.buildSl 9 1 0 [(.string ⟨#[]⟩)] []),
    o1 6 (.mv (.t 0)),
    o1 7 (.app 9 1 16 (.t 5) (.t 6)),
    o1 8 (.mv (.t 1)),
    o1 9 (.app 9 1 16 (.t 7) (.t 8)),
    o1 4 (.mv (.t 9))])
   (.ret))
theorem s31_ok : lookF Try.prog 31 = some (s31, 10, [.tmp 4]) := by kernel_rfl
theorem join_ok (a b : List Str) (ha : a.length + b.length ≤ 8796093022208) : Fn P 31 [sl a, sl b] (sl (a ++ b)) := by
  have e : (a ++ b).length = a.length + b.length := List.length_append ..
  (refine fn_look s31_ok (by simp) (by intro k; simp only [go_sem, Nat.reduceEqDiff, ↓reduceIte, reduceCtorEq, Nat.reduceAdd, Nat.reduceMul, Int.reduceToNat, List.reduceReplicate, Nat.reduceLeDiff, Nat.reduceLT, Int.reduceLT, Int.reduceLE, Int.reduceEq]) fun S hS => cwp_sound _ _ _ _ ?_; simp (maxSteps := 900000) (disch := omega) only [s31, go_sem, Nat.reduceEqDiff, ↓reduceIte, reduceCtorEq, Nat.reduceAdd, Nat.reduceMul, Int.reduceToNat, List.reduceReplicate, Nat.reduceLeDiff, Nat.reduceLT, Int.reduceLT, Int.reduceLE, Int.reduceEq])
  repeat' (first | with_reducible refine inw ?_ | simp (maxSteps := 900000) (disch := omega) only [go_sem, Nat.reduceEqDiff, ↓reduceIte, reduceCtorEq, Nat.reduceAdd, Nat.reduceMul, Int.reduceToNat, List.reduceReplicate, Nat.reduceLeDiff, Nat.reduceLT, Int.reduceLT, Int.reduceLE, Int.reduceEq] | with_reducible refine pickB_f ?_ | with_reducible refine giv_intro fun _h => ?_ | with_reducible refine alt_intro ?_ fun _h => ?_ | with_reducible refine pickD_nil ?_ | (with_reducible refine brc (fun _h => ?_) fun _h => ?_) <;> first | (exfalso; omega) | simp only [decide_eq_false _h] | simp only [(_h : (_ : Bool) = _)] | simp only [decide_eq_true _h] | skip)
theorem concat2_ok (a b : List Str) (ha : a.length ≤ 1000) (hb : b.length ≤ 1000) : Fn P 55 [sl [a, b]] (sl (a ++ b)) := by
  have h := concatS_ok [a, b] (by simp) (by simp; omega)
  simpa using h
/-- ablaut/hyph.Break: 3 parameters, 0 captured -/
def s23 : SC := .seq (.reg [o1 3 (.box 37 5 (.t 0)),
   o1 6 (.mv (.c (.slice none 0 0))),
   o1 7 (.mv (.c (.slice none 0 0))),
   o1 8 (.mv (cI 0))])
  (.seq (.reg [o1 16 (.load (some 5) (.t 3)),
    o1 17 (.mv (.t 1)),
    o1 18 (.call (.f 12) [(.t 16), (.t 17)]),
    o1 15 (.mv (.t 18)),
    o1 19 (.ext (.t 15) 0),
    o1 20 (.ext (.t 15) 1),
    o1 9 (.mv (.t 19)),
    o1 10 (.mv (.t 20))])
   (.seq (.seq (.reg [o1 21 (.mv (.t 10)),
      o1 22 (.bin .neq (.t 21) (cI 0))])
     (.cond (.t 22) (.seq (.reg [o1 23 (.mv (.t 10)),
        o1 6 (.mv (.c (.slice none 0 0))),
        o1 7 (.mv (.c (.slice none 0 0))),
        o1 8 (.mv (.t 23))])
       (.ret)) (.skip)))
    (.seq (.seq (.reg [o1 24 (.mv (.t 9)),
       o1 25 (.mv (.t 2)),
       o1 26 (.call (.f 53) [(.t 24), (.t 25)]),
       o1 27 (.un .not (.t 26))])
      (.cond (.t 27) (.seq (.reg [o1 6 (.mv (.c (.slice none 0 0))),
         o1 7 (.mv (.c (.slice none 0 0))),
         o1 8 (.mv (cI 4))])
        (.ret)) (.skip)))
     (.seq (.seq (.reg [o1 28 (.faddr 4 (.t 3)),
        o1 29 (.load none (.t 28)),
        o1 30 (.lenL (.t 29)),
        o1 31 (.mv (cI 0))])
       (.block 0 (.loop (.seq (.reg [o1 32 (.bin .lss (.t 31) (.t 30))])
          (.seq (.cond (.t 32) (.skip) (.exit 0))
           (.seq (.block 1 (.seq (.reg [o1 33 (.iaddr 4 (.t 29) (.t 31)),
               o1 34 (.load (some 4) (.t 33)),
               o1 12 (.alloc 66 4 [(.slice none 0 0), (.slice none 0 0), (.slice none 0 0), (.int .i64 0)]),
               o0 (.store 4 (.t 12) (.t 34))])
              (.seq (.reg [o1 35 (.mv (.t 2)),
                o1 36 (.faddr 3 (.t 12)),
                o1 37 (.load none (.t 36)),
                o1 38 (.bin .sub (.t 35) (.t 37)),
                o1 13 (.mv (.t 38))])
               (.seq (.reg [o1 39 (.mv (.t 13)),
                 o1 40 (.faddr 0 (.t 12)),
                 o1 41 (.load none (.t 40)),
                 o1 42 (.lenL (.t 41)),
                 o1 43 (.bin .add (.t 39) (.t 42)),
                 o1 14 (.mv (.t 43))])
                (.seq (.regC [(false, o1 44 (.mv (.t 13))),
                  (false, o1 45 (.bin .geq (.t 44) (cI 0))),
                  (false, o1 46 (.mv (.t 45))),
                  (false, oT 47 (.mv (.t 14)) 46),
                  (false, oT 48 (.mv (.t 1)) 46),
                  (false, oT 49 (.lenL (.t 48)) 46),
                  (false, oT 50 (.bin .leq (.t 47) (.t 49)) 46),
                  (false, o1 51 (.pick (.t 46) (.t 50) (cB false))),
                  (false, o1 52 (.mv (.t 51))),
                  (false, oT 53 (.mv (.t 1)) 52),
                  (false, oT 54 (.mv (.t 13)) 52),
                  (false, oT 55 (.mv (.t 14)) 52),
                  (false, oT 56 (.sl 1 (.t 53) (some (.t 54)) (some (.t 55))) 52),
                  (false, oT 57 (.faddr 0 (.t 12)) 52),
                  (false, oT 58 (.load none (.t 57)) 52),
                  (true, oT 59 (.call (.f 54) [(.t 56), (.t 58)]) 52),
                  (false, o1 60 (.pick (.t 52) (.t 59) (cB false)))])
                 (.cond (.t 60) (.seq (.regC [(false, o1 61 (.mv (.t 1))),
                    (false, o1 62 (.mv (.t 13))),
                    (false, o1 63 (.sl 1 (.t 61) none (some (.t 62)))),
                    (false, o1 64 (.faddr 1 (.t 12))),
                    (false, o1 65 (.load none (.t 64))),
                    (false, o1 66 (.buildSl 22 1 2 [(.slice none 0 0)] [(0, 1, (.t 63)), (1, 1, (.t 65))])),
                    (false, o1 67 (.call (.f 55) [(.t 66)])),
                    (false, o1 68 (.faddr 2 (.t 12))),
                    (false, o1 69 (.load none (.t 68))),
                    (false, o1 70 (.mv (.t 1))),
                    (false, o1 71 (.mv (.t 14))),
                    (false, o1 72 (.sl 1 (.t 70) (some (.t 71)) none)),
                    (false, o1 73 (.buildSl 22 1 2 [(.slice none 0 0)] [(0, 1, (.t 69)), (1, 1, (.t 72))])),
                    (true, o1 74 (.call (.f 55) [(.t 73)])),
                    (false, o1 6 (.mv (.t 67))),
                    (false, o1 7 (.mv (.t 74))),
                    (false, o1 8 (.mv (cI 0)))])
                   (.ret)) (.skip)))))))
            (.reg [o1 75 (.bin .add (.t 31) (cI 1)),
             o1 31 (.mv (.t 75))])))))))
      (.seq (.regC [(false, o1 76 (.mv (.t 1))),
        (false, o1 77 (.mv (.t 2))),
        (false, o1 78 (.sl 1 (.t 76) none (some (.t 77)))),
        (false, o1 79 (.call (.f 56) [(.t 78)])),
        (false, o1 80 (.mv (.t 1))),
        (false, o1 81 (.mv (.t 2))),
        (false, o1 82 (.sl 1 (.t 80) (some (.t 81)) none)),
        (true, o1 83 (.call (.f 56) [(.t 82)])),
        (false, o1 6 (.mv (.t 79))),
        (false, o1 7 (.mv (.t 83))),
        (false, o1 8 (.mv (cI 0)))])
       (.ret))))))
theorem s23_ok : lookF Try.prog 23 = some (s23, 84, [.tmp 6, .tmp 7, .tmp 8]) := by kernel_rfl
set_option maxHeartbeats 1000000 in
theorem hBreak_ok (h : Book) (w : List Str) (a : Int) : Fn P 23 [bkA h, sl w, intA a] (.tup [sl (brkF h w a).1, sl (brkF h w a).2.1, intA (brkF h w a).2.2]) := by
  have c1 := hBreaksF_ok h w
  by_cases he : askE h w ≠ 0
  · rw [brkF, if_pos he]
    rw [bksR, if_pos he] at c1
    (refine fn_look s23_ok (by simp) (by intro k; simp only [go_sem, Nat.reduceEqDiff, ↓reduceIte, reduceCtorEq, Nat.reduceAdd, Nat.reduceMul, Int.reduceToNat, List.reduceReplicate, Nat.reduceLeDiff, Nat.reduceLT, Int.reduceLT, Int.reduceLE, Int.reduceEq]) fun S hS => cwp_sound _ _ _ _ ?_; simp (maxSteps := 900000) (disch := omega) only [s23, go_sem, Nat.reduceEqDiff, ↓reduceIte, reduceCtorEq, Nat.reduceAdd, Nat.reduceMul, Int.reduceToNat, List.reduceReplicate, Nat.reduceLeDiff, Nat.reduceLT, Int.reduceLT, Int.reduceLE, Int.reduceEq])
    repeat' (first | with_reducible refine inw ?_ | simp (maxSteps := 900000) (disch := omega) only [go_sem, Nat.reduceEqDiff, ↓reduceIte, reduceCtorEq, Nat.reduceAdd, Nat.reduceMul, Int.reduceToNat, List.reduceReplicate, Nat.reduceLeDiff, Nat.reduceLT, Int.reduceLT, Int.reduceLE, Int.reduceEq] | (with_reducible apply call (c1)); (focus simp (maxSteps := 900000) (disch := omega) only [go_sem, Nat.reduceEqDiff, ↓reduceIte, reduceCtorEq, Nat.reduceAdd, Nat.reduceMul, Int.reduceToNat, List.reduceReplicate, Nat.reduceLeDiff, Nat.reduceLT, Int.reduceLT, Int.reduceLE, Int.reduceEq] <;> rfl) | with_reducible refine pickB_f ?_ | with_reducible refine giv_intro fun _h => ?_ | with_reducible refine alt_intro ?_ fun _h => ?_ | with_reducible refine pickD_nil ?_ | (with_reducible refine brc (fun _h => ?_) fun _h => ?_) <;> first | (exfalso; omega) | simp only [decide_eq_false _h] | simp only [(_h : (_ : Bool) = _)] | simp only [decide_eq_true _h] | skip)
    all_goals rfl
  have he0 : askE h w = 0 := by omega
  obtain ⟨hv, hw, hs⟩ := wk_brk he0
  have hin := @brT_in h w hv
  have htr := @trn_at h hv
  have htl := (book_facts hv).2.2.2.2.2.1
  rw [brkF, if_neg he]
  rw [bksR, if_neg he] at c1
  have c2 := ContainsI_ok (brT h w) a
  generalize brT h w = R at *
  cases hh : hasI R a
  · rw [hh] at c2
    rw [if_neg (by decide)]
    (refine fn_look s23_ok (by simp) (by intro k; simp only [go_sem, Nat.reduceEqDiff, ↓reduceIte, reduceCtorEq, Nat.reduceAdd, Nat.reduceMul, Int.reduceToNat, List.reduceReplicate, Nat.reduceLeDiff, Nat.reduceLT, Int.reduceLT, Int.reduceLE, Int.reduceEq]) fun S hS => cwp_sound _ _ _ _ ?_; simp (maxSteps := 900000) (disch := omega) only [s23, go_sem, Nat.reduceEqDiff, ↓reduceIte, reduceCtorEq, Nat.reduceAdd, Nat.reduceMul, Int.reduceToNat, List.reduceReplicate, Nat.reduceLeDiff, Nat.reduceLT, Int.reduceLT, Int.reduceLE, Int.reduceEq])
    repeat' (first | with_reducible refine inw ?_ | simp (maxSteps := 900000) (disch := omega) only [go_sem, Nat.reduceEqDiff, ↓reduceIte, reduceCtorEq, Nat.reduceAdd, Nat.reduceMul, Int.reduceToNat, List.reduceReplicate, Nat.reduceLeDiff, Nat.reduceLT, Int.reduceLT, Int.reduceLE, Int.reduceEq] | (with_reducible apply call (c1)); (focus simp (maxSteps := 900000) (disch := omega) only [go_sem, Nat.reduceEqDiff, ↓reduceIte, reduceCtorEq, Nat.reduceAdd, Nat.reduceMul, Int.reduceToNat, List.reduceReplicate, Nat.reduceLeDiff, Nat.reduceLT, Int.reduceLT, Int.reduceLE, Int.reduceEq] <;> rfl) | (with_reducible apply call (c2)); (focus simp (maxSteps := 900000) (disch := omega) only [go_sem, Nat.reduceEqDiff, ↓reduceIte, reduceCtorEq, Nat.reduceAdd, Nat.reduceMul, Int.reduceToNat, List.reduceReplicate, Nat.reduceLeDiff, Nat.reduceLT, Int.reduceLT, Int.reduceLE, Int.reduceEq] <;> rfl) | with_reducible refine pickB_f ?_ | with_reducible refine giv_intro fun _h => ?_ | with_reducible refine alt_intro ?_ fun _h => ?_ | with_reducible refine pickD_nil ?_ | (with_reducible refine brc (fun _h => ?_) fun _h => ?_) <;> first | (exfalso; omega) | simp only [decide_eq_false _h] | simp only [(_h : (_ : Bool) = _)] | simp only [decide_eq_true _h] | skip)
    all_goals rfl
  rw [hh] at c2
  rw [if_pos rfl]
  have hA := hin a (hasI_in hh)
  obtain ⟨lf, rt, ps, xs, ts⟩ := h
  dsimp only at htl htr ⊢
  (refine fn_look s23_ok (by simp) (by intro k; simp only [go_sem, Nat.reduceEqDiff, ↓reduceIte, reduceCtorEq, Nat.reduceAdd, Nat.reduceMul, Int.reduceToNat, List.reduceReplicate, Nat.reduceLeDiff, Nat.reduceLT, Int.reduceLT, Int.reduceLE, Int.reduceEq]) fun S hS => cwp_sound _ _ _ _ ?_; simp (maxSteps := 900000) (disch := omega) only [s23, go_sem, Nat.reduceEqDiff, ↓reduceIte, reduceCtorEq, Nat.reduceAdd, Nat.reduceMul, Int.reduceToNat, List.reduceReplicate, Nat.reduceLeDiff, Nat.reduceLT, Int.reduceLT, Int.reduceLE, Int.reduceEq])
  repeat' (first | with_reducible refine inw ?_ | simp (maxSteps := 900000) (disch := omega) only [go_sem, Nat.reduceEqDiff, ↓reduceIte, reduceCtorEq, Nat.reduceAdd, Nat.reduceMul, Int.reduceToNat, List.reduceReplicate, Nat.reduceLeDiff, Nat.reduceLT, Int.reduceLT, Int.reduceLE, Int.reduceEq] | (with_reducible apply call (c1)); (focus simp (maxSteps := 900000) (disch := omega) only [go_sem, Nat.reduceEqDiff, ↓reduceIte, reduceCtorEq, Nat.reduceAdd, Nat.reduceMul, Int.reduceToNat, List.reduceReplicate, Nat.reduceLeDiff, Nat.reduceLT, Int.reduceLT, Int.reduceLE, Int.reduceEq] <;> rfl) | (with_reducible apply call (c2)); (focus simp (maxSteps := 900000) (disch := omega) only [go_sem, Nat.reduceEqDiff, ↓reduceIte, reduceCtorEq, Nat.reduceAdd, Nat.reduceMul, Int.reduceToNat, List.reduceReplicate, Nat.reduceLeDiff, Nat.reduceLT, Int.reduceLT, Int.reduceLE, Int.reduceEq] <;> rfl) | with_reducible refine pickB_f ?_ | with_reducible refine giv_intro fun _h => ?_ | with_reducible refine alt_intro ?_ fun _h => ?_ | with_reducible refine pickD_nil ?_ | (with_reducible refine brc (fun _h => ?_) fun _h => ?_) <;> first | (exfalso; omega) | simp only [decide_eq_false _h] | simp only [(_h : (_ : Bool) = _)] | simp only [decide_eq_true _h] | skip)
  (refine loopC hS [1, 2, 29, 30] (by simp only [go_sem, Nat.reduceEqDiff, ↓reduceIte, reduceCtorEq, Nat.reduceAdd, Nat.reduceMul, Int.reduceToNat, List.reduceReplicate, Nat.reduceLeDiff, Nat.reduceLT, Int.reduceLT, Int.reduceLE, Int.reduceEq]; try rfl) (fun (i : Nat) => [(31, intA i)]) (fun (i : Nat) => [none]) (fun (i : Nat) => i ≤ ts.length ∧ ∀ j, j < i → fitB w a (nth ts j) = false) (fun (i : Nat) => ts.length - i) (0) ?_ (by intro s; first | (simp only [List.length_cons, List.length_nil]; done) | rfl | (rcases s with ⟨_, _⟩; rfl) | (rcases s with ⟨_, _, _⟩; rfl) | (rcases s with ⟨_, _, _, _⟩; rfl) | (rcases s with ⟨_, _, _, _, _⟩; rfl)) ?_)
  · simp (maxSteps := 900000) (disch := omega) only [go_sem, Nat.reduceEqDiff, ↓reduceIte, reduceCtorEq, Nat.reduceAdd, Nat.reduceMul, Int.reduceToNat, List.reduceReplicate, Nat.reduceLeDiff, Nat.reduceLT, Int.reduceLT, Int.reduceLE, Int.reduceEq]
    exact ⟨Nat.zero_le _, fun j hj => absurd hj (Nat.not_lt_zero _)⟩
  rintro i ⟨hi, hI⟩
  replace hi : i ≤ ts.length := hi
  replace hI : ∀ j, j < i → fitB w a (nth ts j) = false := hI
  have z2 : zcells [Value.slice none 0 0] 2 = [.sc (.slice none 0 0), .sc (.slice none 0 0)] := rfl
  by_cases hil : i < ts.length
  · have ht := @htr i hil
    have hyes := fun hp => @find_yes _ _ _ ts (fitB w a) i hil hp hI
    have hno : fitB w a (nth ts i) = false → ∀ j, j < i + 1 → fitB w a (nth ts j) = false := fun e j hj => by
      rcases Nat.lt_or_ge j i with q | q
      · exact hI j q
      · obtain rfl : j = i := by omega
        exact e
    clear hI htr hin
    have hfd : fitB w a (nth ts i) = (decide (0 ≤ a - (nth ts i).2.2.2) && decide ((a - (nth ts i).2.2.2) + (nth ts i).1.length ≤ w.length) && decide ((w.drop (a - (nth ts i).2.2.2).toNat).take (nth ts i).1.length = (nth ts i).1)) := rfl
    have hcd : cutF w a (nth ts i) = (w.take (a - (nth ts i).2.2.2).toNat ++ (nth ts i).2.1, (nth ts i).2.2.1 ++ w.drop ((a - (nth ts i).2.2.2).toNat + (nth ts i).1.length)) := rfl
    by_cases hc : 0 ≤ a - (nth ts i).2.2.2 ∧ (a - (nth ts i).2.2.2) + (nth ts i).1.length ≤ w.length
    · obtain ⟨n, hn⟩ : ∃ n : Nat, a - (nth ts i).2.2.2 = (n : Int) := ⟨(a - (nth ts i).2.2.2).toNat, by omega⟩
      rw [hn] at hfd hcd
      simp only [Int.toNat_natCast] at hfd hcd
      have f1 : n + (nth ts i).1.length - n = (nth ts i).1.length := by omega
      have f2 : ((n : Int) + (nth ts i).1.length).toNat = n + (nth ts i).1.length := by omega
      have s1 := Equal_ok ((w.drop n).take (nth ts i).1.length) (nth ts i).1
      by_cases hs : (w.drop n).take (nth ts i).1.length = (nth ts i).1
      · rw [decide_eq_true hs] at s1
        have hy := hyes (by rw [hfd, decide_eq_true hs]; simp; omega)
        rw [cutT, hy]
        dsimp only
        rw [hcd]
        have d1 := concat2_ok (w.take n) (nth ts i).2.1 (by rw [List.length_take]; omega) (by omega)
        have d2 := concat2_ok (nth ts i).2.2.1 (w.drop (n + (nth ts i).1.length)) (by omega) (by rw [List.length_drop]; omega)
        have e8 : List.take (w.length - (n + (nth ts i).1.length)) (List.drop (n + (nth ts i).1.length) w) = List.drop (n + (nth ts i).1.length) w := List.take_of_length_le (by rw [List.length_drop]; exact Nat.le_refl _)
        repeat' (first | with_reducible refine inw ?_ | simp (maxSteps := 900000) (disch := omega) only [go_sem, Nat.reduceEqDiff, ↓reduceIte, reduceCtorEq, Nat.reduceAdd, Nat.reduceMul, Int.reduceToNat, List.reduceReplicate, Nat.reduceLeDiff, Nat.reduceLT, Int.reduceLT, Int.reduceLE, Int.reduceEq, f1, f2, e8, z2, hn] | (with_reducible apply call_D (s1)); (focus simp (maxSteps := 900000) (disch := omega) only [go_sem, Nat.reduceEqDiff, ↓reduceIte, reduceCtorEq, Nat.reduceAdd, Nat.reduceMul, Int.reduceToNat, List.reduceReplicate, Nat.reduceLeDiff, Nat.reduceLT, Int.reduceLT, Int.reduceLE, Int.reduceEq, f1, f2, e8, z2, hn] <;> rfl) | (with_reducible apply call_D (d1)); (focus simp (maxSteps := 900000) (disch := omega) only [go_sem, Nat.reduceEqDiff, ↓reduceIte, reduceCtorEq, Nat.reduceAdd, Nat.reduceMul, Int.reduceToNat, List.reduceReplicate, Nat.reduceLeDiff, Nat.reduceLT, Int.reduceLT, Int.reduceLE, Int.reduceEq, f1, f2, e8, z2, hn] <;> rfl) | (with_reducible apply call_D (d2)); (focus simp (maxSteps := 900000) (disch := omega) only [go_sem, Nat.reduceEqDiff, ↓reduceIte, reduceCtorEq, Nat.reduceAdd, Nat.reduceMul, Int.reduceToNat, List.reduceReplicate, Nat.reduceLeDiff, Nat.reduceLT, Int.reduceLT, Int.reduceLE, Int.reduceEq, f1, f2, e8, z2, hn] <;> rfl) | with_reducible refine pickB_f ?_ | with_reducible refine giv_intro fun _h => ?_ | with_reducible refine alt_intro ?_ fun _h => ?_ | with_reducible refine pickD_nil ?_ | (with_reducible refine brc (fun _h => ?_) fun _h => ?_) <;> first | (exfalso; omega) | simp only [decide_eq_false _h] | simp only [(_h : (_ : Bool) = _)] | simp only [decide_eq_true _h] | skip)
        all_goals skip
      · rw [decide_eq_false hs] at s1
        replace hno := hno (by rw [hfd, decide_eq_false hs]; simp)
        repeat' (first | with_reducible refine inw ?_ | simp (maxSteps := 900000) (disch := omega) only [go_sem, Nat.reduceEqDiff, ↓reduceIte, reduceCtorEq, Nat.reduceAdd, Nat.reduceMul, Int.reduceToNat, List.reduceReplicate, Nat.reduceLeDiff, Nat.reduceLT, Int.reduceLT, Int.reduceLE, Int.reduceEq, f1, f2, hn] | (with_reducible apply call_D (s1)); (focus simp (maxSteps := 900000) (disch := omega) only [go_sem, Nat.reduceEqDiff, ↓reduceIte, reduceCtorEq, Nat.reduceAdd, Nat.reduceMul, Int.reduceToNat, List.reduceReplicate, Nat.reduceLeDiff, Nat.reduceLT, Int.reduceLT, Int.reduceLE, Int.reduceEq, f1, f2, hn] <;> rfl) | with_reducible refine pickB_f ?_ | with_reducible refine giv_intro fun _h => ?_ | with_reducible refine alt_intro ?_ fun _h => ?_ | with_reducible refine pickD_nil ?_ | (with_reducible refine brc (fun _h => ?_) fun _h => ?_) <;> first | (exfalso; omega) | simp only [decide_eq_false _h] | simp only [(_h : (_ : Bool) = _)] | simp only [decide_eq_true _h] | skip)
        all_goals exact ⟨i + 1, ⟨by omega, by omega, hno⟩, rfl⟩
    · replace hno := hno (by rw [hfd]; simp; omega)
      repeat' (first | with_reducible refine inw ?_ | simp (maxSteps := 900000) (disch := omega) only [go_sem, Nat.reduceEqDiff, ↓reduceIte, reduceCtorEq, Nat.reduceAdd, Nat.reduceMul, Int.reduceToNat, List.reduceReplicate, Nat.reduceLeDiff, Nat.reduceLT, Int.reduceLT, Int.reduceLE, Int.reduceEq] | with_reducible refine pickB_f ?_ | with_reducible refine giv_intro fun _h => ?_ | with_reducible refine alt_intro ?_ fun _h => ?_ | with_reducible refine pickD_nil ?_ | (with_reducible refine brc (fun _h => ?_) fun _h => ?_) <;> first | (exfalso; omega) | simp only [decide_eq_false _h] | simp only [(_h : (_ : Bool) = _)] | simp only [decide_eq_true _h] | skip)
      all_goals exact ⟨i + 1, ⟨by omega, by omega, hno⟩, rfl⟩
  · have hnone := @find_no _ _ _ ts (fitB w a) (fun j hj => hI j (by omega))
    rw [cutT, hnone]
    dsimp only
    have d1 := cloneS_ok (w.take a.toNat) (by rw [List.length_take]; omega)
    have d2 := cloneS_ok (w.drop a.toNat) (by rw [List.length_drop]; omega)
    have e8 : List.take (w.length - a.toNat) (List.drop a.toNat w) = List.drop a.toNat w := List.take_of_length_le (by rw [List.length_drop]; exact Nat.le_refl _)
    repeat' (first | with_reducible refine inw ?_ | simp (maxSteps := 900000) (disch := omega) only [go_sem, Nat.reduceEqDiff, ↓reduceIte, reduceCtorEq, Nat.reduceAdd, Nat.reduceMul, Int.reduceToNat, List.reduceReplicate, Nat.reduceLeDiff, Nat.reduceLT, Int.reduceLT, Int.reduceLE, Int.reduceEq, e8] | (with_reducible apply call_D (d1)); (focus simp (maxSteps := 900000) (disch := omega) only [go_sem, Nat.reduceEqDiff, ↓reduceIte, reduceCtorEq, Nat.reduceAdd, Nat.reduceMul, Int.reduceToNat, List.reduceReplicate, Nat.reduceLeDiff, Nat.reduceLT, Int.reduceLT, Int.reduceLE, Int.reduceEq, e8] <;> rfl) | (with_reducible apply call_D (d2)); (focus simp (maxSteps := 900000) (disch := omega) only [go_sem, Nat.reduceEqDiff, ↓reduceIte, reduceCtorEq, Nat.reduceAdd, Nat.reduceMul, Int.reduceToNat, List.reduceReplicate, Nat.reduceLeDiff, Nat.reduceLT, Int.reduceLT, Int.reduceLE, Int.reduceEq, e8] <;> rfl) | with_reducible refine pickB_f ?_ | with_reducible refine giv_intro fun _h => ?_ | with_reducible refine alt_intro ?_ fun _h => ?_ | with_reducible refine pickD_nil ?_ | (with_reducible refine brc (fun _h => ?_) fun _h => ?_) <;> first | (exfalso; omega) | simp only [decide_eq_false _h] | simp only [(_h : (_ : Bool) = _)] | simp only [decide_eq_true _h] | skip)
    all_goals skip
/-- ablaut/ablautref24.Break: 3 parameters, 0 captured -/
def s24 : SC := .seq (.reg [o1 3 (.box 37 5 (.t 0)),
   o1 6 (.mv (.c (.slice none 0 0))),
   o1 7 (.mv (.c (.slice none 0 0))),
   o1 8 (.mv (cI 0))])
  (.seq (.seq (.reg [o1 14 (.load (some 5) (.t 3)),
     o1 15 (.mv (.t 1)),
     o1 16 (.call (.f 40) [(.t 14), (.t 15)]),
     o1 9 (.mv (.t 16))])
    (.seq (.reg [o1 17 (.mv (.t 9)),
      o1 18 (.bin .neq (.t 17) (cI 0))])
     (.cond (.t 18) (.seq (.reg [o1 19 (.mv (.t 9)),
        o1 6 (.mv (.c (.slice none 0 0))),
        o1 7 (.mv (.c (.slice none 0 0))),
        o1 8 (.mv (.t 19))])
       (.ret)) (.skip))))
   (.seq (.seq (.reg [o1 20 (.load (some 5) (.t 3)),
      o1 21 (.mv (.t 1)),
      o1 22 (.call (.f 42) [(.t 20), (.t 21)]),
      o1 23 (.mv (.t 2)),
      o1 24 (.call (.f 57) [(.t 22), (.t 23)]),
      o1 25 (.un .not (.t 24))])
     (.cond (.t 25) (.seq (.reg [o1 6 (.mv (.c (.slice none 0 0))),
        o1 7 (.mv (.c (.slice none 0 0))),
        o1 8 (.mv (cI 4))])
       (.ret)) (.skip)))
    (.seq (.seq (.reg [o1 10 (.mv (cI 0))])
      (.block 0 (.loop (.seq (.seq (.reg [o1 26 (.mv (.t 10)),
           o1 27 (.faddr 4 (.t 3)),
           o1 28 (.load none (.t 27)),
           o1 29 (.lenL (.t 28)),
           o1 30 (.bin .lss (.t 26) (.t 29))])
          (.cond (.t 30) (.skip) (.exit 0)))
         (.seq (.block 1 (.seq (.reg [o1 33 (.faddr 4 (.t 3)),
             o1 34 (.load none (.t 33)),
             o1 35 (.mv (.t 10)),
             o1 36 (.iaddr 4 (.t 34) (.t 35)),
             o1 37 (.load (some 4) (.t 36)),
             o1 11 (.alloc 66 4 [(.slice none 0 0), (.slice none 0 0), (.slice none 0 0), (.int .i64 0)]),
             o0 (.store 4 (.t 11) (.t 37))])
            (.seq (.reg [o1 38 (.mv (.t 2)),
              o1 39 (.faddr 3 (.t 11)),
              o1 40 (.load none (.t 39)),
              o1 41 (.bin .sub (.t 38) (.t 40)),
              o1 12 (.mv (.t 41))])
             (.seq (.reg [o1 42 (.mv (.t 12)),
               o1 43 (.faddr 0 (.t 11)),
               o1 44 (.load none (.t 43)),
               o1 45 (.lenL (.t 44)),
               o1 46 (.bin .add (.t 42) (.t 45)),
               o1 13 (.mv (.t 46))])
              (.seq (.regC [(false, o1 47 (.mv (.t 12))),
                (false, o1 48 (.bin .geq (.t 47) (cI 0))),
                (false, o1 49 (.mv (.t 48))),
                (false, oT 50 (.mv (.t 13)) 49),
                (false, oT 51 (.mv (.t 1)) 49),
                (false, oT 52 (.lenL (.t 51)) 49),
                (false, oT 53 (.bin .leq (.t 50) (.t 52)) 49),
                (false, o1 54 (.pick (.t 49) (.t 53) (cB false))),
                (false, o1 55 (.mv (.t 54))),
                (false, oT 56 (.mv (.t 1)) 55),
                (false, oT 57 (.mv (.t 12)) 55),
                (false, oT 58 (.mv (.t 13)) 55),
                (false, oT 59 (.sl 1 (.t 56) (some (.t 57)) (some (.t 58))) 55),
                (false, oT 60 (.faddr 0 (.t 11)) 55),
                (false, oT 61 (.load none (.t 60)) 55),
                (true, oT 62 (.call (.f 25) [(.t 59), (.t 61)]) 55),
                (false, o1 63 (.pick (.t 55) (.t 62) (cB false)))])
               (.cond (.t 63) (.seq (.regC [(false, o1 64 (.mv (.t 1))),
                  (false, o1 65 (.mv (.t 12))),
                  (false, o1 66 (.sl 1 (.t 64) none (some (.t 65)))),
                  (false, o1 67 (.faddr 1 (.t 11))),
                  (false, o1 68 (.load none (.t 67))),
                  (false, o1 69 (.call (.f 31) [(.t 66), (.t 68)])),
                  (false, o1 70 (.faddr 2 (.t 11))),
                  (false, o1 71 (.load none (.t 70))),
                  (false, o1 72 (.mv (.t 1))),
                  (false, o1 73 (.mv (.t 13))),
                  (false, o1 74 (.sl 1 (.t 72) (some (.t 73)) none)),
                  (true, o1 75 (.call (.f 31) [(.t 71), (.t 74)])),
                  (false, o1 6 (.mv (.t 69))),
                  (false, o1 7 (.mv (.t 75))),
                  (false, o1 8 (.mv (cI 0)))])
                 (.ret)) (.skip)))))))
          (.reg [o1 31 (.mv (.t 10)),
           o1 32 (.bin .add (.t 31) (cI 1)),
           o1 10 (.mv (.t 32))]))))))
     (.seq (.regG [(true, o1 76 (.mv (.t 1))),
       (true, o1 77 (.mv (.t 2))),
       (true, o1 78 (.sl 1 (.t 76) none (some (.t 77)))),
       (true, o1 80 (.mv (.t 1))),
       (true, o1 81 (.mv (.t 2))),
       (true, o1 82 (.sl 1 (.t 80) (some (.t 81)) none)),
       (true, o1 79 (.app 9 1 16 (.c (.slice none 0 0)) (.t 78))),
       (false, o1 83 (.app 9 1 16 (.c (.slice none 0 0)) (.t 82))),
       (false, o1 6 (.mv (.t 79))),
       (false, o1 7 (.mv (.t 83))),
       (false, o1 8 (.mv (cI 0)))])
      (.ret)))))
theorem s24_ok : lookF Try.prog 24 = some (s24, 84, [.tmp 6, .tmp 7, .tmp 8]) := by kernel_rfl
set_option maxHeartbeats 1000000 in
theorem rBreak_ok (h : Book) (w : List Str) (a : Int) : Fn P 24 [bkA h, sl w, intA a] (.tup [sl (brkF h w a).1, sl (brkF h w a).2.1, intA (brkF h w a).2.2]) := by
  have c0 := asked_ok h w
  by_cases he : askE h w ≠ 0
  · rw [brkF, if_pos he]
    (refine fn_look s24_ok (by simp) (by intro k; simp only [go_sem, Nat.reduceEqDiff, ↓reduceIte, reduceCtorEq, Nat.reduceAdd, Nat.reduceMul, Int.reduceToNat, List.reduceReplicate, Nat.reduceLeDiff, Nat.reduceLT, Int.reduceLT, Int.reduceLE, Int.reduceEq]) fun S hS => cwp_sound _ _ _ _ ?_; simp (maxSteps := 900000) (disch := omega) only [s24, go_sem, Nat.reduceEqDiff, ↓reduceIte, reduceCtorEq, Nat.reduceAdd, Nat.reduceMul, Int.reduceToNat, List.reduceReplicate, Nat.reduceLeDiff, Nat.reduceLT, Int.reduceLT, Int.reduceLE, Int.reduceEq])
    repeat' (first | with_reducible refine inw ?_ | simp (maxSteps := 900000) (disch := omega) only [go_sem, Nat.reduceEqDiff, ↓reduceIte, reduceCtorEq, Nat.reduceAdd, Nat.reduceMul, Int.reduceToNat, List.reduceReplicate, Nat.reduceLeDiff, Nat.reduceLT, Int.reduceLT, Int.reduceLE, Int.reduceEq] | (with_reducible apply call (c0)); (focus simp (maxSteps := 900000) (disch := omega) only [go_sem, Nat.reduceEqDiff, ↓reduceIte, reduceCtorEq, Nat.reduceAdd, Nat.reduceMul, Int.reduceToNat, List.reduceReplicate, Nat.reduceLeDiff, Nat.reduceLT, Int.reduceLT, Int.reduceLE, Int.reduceEq] <;> rfl) | with_reducible refine pickB_f ?_ | with_reducible refine giv_intro fun _h => ?_ | with_reducible refine alt_intro ?_ fun _h => ?_ | with_reducible refine pickD_nil ?_ | (with_reducible refine brc (fun _h => ?_) fun _h => ?_) <;> first | (exfalso; omega) | simp only [decide_eq_false _h] | simp only [(_h : (_ : Bool) = _)] | simp only [decide_eq_true _h] | skip)
    all_goals rfl
  have he0 : askE h w = 0 := by omega
  obtain ⟨hv, hw, hs⟩ := wk_brk he0
  have hin := @brT_in h w hv
  have htr := @trn_at h hv
  have htl := (book_facts hv).2.2.2.2.2.1
  rw [brkF, if_neg he]
  rw [he0] at c0
  have c1 := rBreaks_ok h w hv hw
  have c2 := has_ok (brT h w) a
  generalize brT h w = R at *
  cases hh : hasI R a
  · rw [hh] at c2
    rw [if_neg (by decide)]
    (refine fn_look s24_ok (by simp) (by intro k; simp only [go_sem, Nat.reduceEqDiff, ↓reduceIte, reduceCtorEq, Nat.reduceAdd, Nat.reduceMul, Int.reduceToNat, List.reduceReplicate, Nat.reduceLeDiff, Nat.reduceLT, Int.reduceLT, Int.reduceLE, Int.reduceEq]) fun S hS => cwp_sound _ _ _ _ ?_; simp (maxSteps := 900000) (disch := omega) only [s24, go_sem, Nat.reduceEqDiff, ↓reduceIte, reduceCtorEq, Nat.reduceAdd, Nat.reduceMul, Int.reduceToNat, List.reduceReplicate, Nat.reduceLeDiff, Nat.reduceLT, Int.reduceLT, Int.reduceLE, Int.reduceEq])
    repeat' (first | with_reducible refine inw ?_ | simp (maxSteps := 900000) (disch := omega) only [go_sem, Nat.reduceEqDiff, ↓reduceIte, reduceCtorEq, Nat.reduceAdd, Nat.reduceMul, Int.reduceToNat, List.reduceReplicate, Nat.reduceLeDiff, Nat.reduceLT, Int.reduceLT, Int.reduceLE, Int.reduceEq] | (with_reducible apply call (c0)); (focus simp (maxSteps := 900000) (disch := omega) only [go_sem, Nat.reduceEqDiff, ↓reduceIte, reduceCtorEq, Nat.reduceAdd, Nat.reduceMul, Int.reduceToNat, List.reduceReplicate, Nat.reduceLeDiff, Nat.reduceLT, Int.reduceLT, Int.reduceLE, Int.reduceEq] <;> rfl) | (with_reducible apply call (c1)); (focus simp (maxSteps := 900000) (disch := omega) only [go_sem, Nat.reduceEqDiff, ↓reduceIte, reduceCtorEq, Nat.reduceAdd, Nat.reduceMul, Int.reduceToNat, List.reduceReplicate, Nat.reduceLeDiff, Nat.reduceLT, Int.reduceLT, Int.reduceLE, Int.reduceEq] <;> rfl) | (with_reducible apply call (c2)); (focus simp (maxSteps := 900000) (disch := omega) only [go_sem, Nat.reduceEqDiff, ↓reduceIte, reduceCtorEq, Nat.reduceAdd, Nat.reduceMul, Int.reduceToNat, List.reduceReplicate, Nat.reduceLeDiff, Nat.reduceLT, Int.reduceLT, Int.reduceLE, Int.reduceEq] <;> rfl) | with_reducible refine pickB_f ?_ | with_reducible refine giv_intro fun _h => ?_ | with_reducible refine alt_intro ?_ fun _h => ?_ | with_reducible refine pickD_nil ?_ | (with_reducible refine brc (fun _h => ?_) fun _h => ?_) <;> first | (exfalso; omega) | simp only [decide_eq_false _h] | simp only [(_h : (_ : Bool) = _)] | simp only [decide_eq_true _h] | skip)
    all_goals rfl
  rw [hh] at c2
  rw [if_pos rfl]
  have hA := hin a (hasI_in hh)
  obtain ⟨lf, rt, ps, xs, ts⟩ := h
  dsimp only at htl htr ⊢
  (refine fn_look s24_ok (by simp) (by intro k; simp only [go_sem, Nat.reduceEqDiff, ↓reduceIte, reduceCtorEq, Nat.reduceAdd, Nat.reduceMul, Int.reduceToNat, List.reduceReplicate, Nat.reduceLeDiff, Nat.reduceLT, Int.reduceLT, Int.reduceLE, Int.reduceEq]) fun S hS => cwp_sound _ _ _ _ ?_; simp (maxSteps := 900000) (disch := omega) only [s24, go_sem, Nat.reduceEqDiff, ↓reduceIte, reduceCtorEq, Nat.reduceAdd, Nat.reduceMul, Int.reduceToNat, List.reduceReplicate, Nat.reduceLeDiff, Nat.reduceLT, Int.reduceLT, Int.reduceLE, Int.reduceEq])
  repeat' (first | with_reducible refine inw ?_ | simp (maxSteps := 900000) (disch := omega) only [go_sem, Nat.reduceEqDiff, ↓reduceIte, reduceCtorEq, Nat.reduceAdd, Nat.reduceMul, Int.reduceToNat, List.reduceReplicate, Nat.reduceLeDiff, Nat.reduceLT, Int.reduceLT, Int.reduceLE, Int.reduceEq] | (with_reducible apply call (c0)); (focus simp (maxSteps := 900000) (disch := omega) only [go_sem, Nat.reduceEqDiff, ↓reduceIte, reduceCtorEq, Nat.reduceAdd, Nat.reduceMul, Int.reduceToNat, List.reduceReplicate, Nat.reduceLeDiff, Nat.reduceLT, Int.reduceLT, Int.reduceLE, Int.reduceEq] <;> rfl) | (with_reducible apply call (c1)); (focus simp (maxSteps := 900000) (disch := omega) only [go_sem, Nat.reduceEqDiff, ↓reduceIte, reduceCtorEq, Nat.reduceAdd, Nat.reduceMul, Int.reduceToNat, List.reduceReplicate, Nat.reduceLeDiff, Nat.reduceLT, Int.reduceLT, Int.reduceLE, Int.reduceEq] <;> rfl) | (with_reducible apply call (c2)); (focus simp (maxSteps := 900000) (disch := omega) only [go_sem, Nat.reduceEqDiff, ↓reduceIte, reduceCtorEq, Nat.reduceAdd, Nat.reduceMul, Int.reduceToNat, List.reduceReplicate, Nat.reduceLeDiff, Nat.reduceLT, Int.reduceLT, Int.reduceLE, Int.reduceEq] <;> rfl) | with_reducible refine pickB_f ?_ | with_reducible refine giv_intro fun _h => ?_ | with_reducible refine alt_intro ?_ fun _h => ?_ | with_reducible refine pickD_nil ?_ | (with_reducible refine brc (fun _h => ?_) fun _h => ?_) <;> first | (exfalso; omega) | simp only [decide_eq_false _h] | simp only [(_h : (_ : Bool) = _)] | simp only [decide_eq_true _h] | skip)
  (refine loopC hS [1, 2, 3] (by simp only [go_sem, Nat.reduceEqDiff, ↓reduceIte, reduceCtorEq, Nat.reduceAdd, Nat.reduceMul, Int.reduceToNat, List.reduceReplicate, Nat.reduceLeDiff, Nat.reduceLT, Int.reduceLT, Int.reduceLE, Int.reduceEq]; try rfl) (fun (i : Nat) => [(10, intA i)]) (fun (i : Nat) => [some (.row 37 5 [intA lf, intA rt, sl ps, sl xs, sl ts])]) (fun (i : Nat) => i ≤ ts.length ∧ ∀ j, j < i → fitB w a (nth ts j) = false) (fun (i : Nat) => ts.length - i) (0) ?_ (by intro s; first | (simp only [List.length_cons, List.length_nil]; done) | rfl | (rcases s with ⟨_, _⟩; rfl) | (rcases s with ⟨_, _, _⟩; rfl) | (rcases s with ⟨_, _, _, _⟩; rfl) | (rcases s with ⟨_, _, _, _, _⟩; rfl)) ?_)
  · simp (maxSteps := 900000) (disch := omega) only [go_sem, Nat.reduceEqDiff, ↓reduceIte, reduceCtorEq, Nat.reduceAdd, Nat.reduceMul, Int.reduceToNat, List.reduceReplicate, Nat.reduceLeDiff, Nat.reduceLT, Int.reduceLT, Int.reduceLE, Int.reduceEq]
    exact ⟨Nat.zero_le _, fun j hj => absurd hj (Nat.not_lt_zero _)⟩
  rintro i ⟨hi, hI⟩
  replace hi : i ≤ ts.length := hi
  replace hI : ∀ j, j < i → fitB w a (nth ts j) = false := hI
  have z2 : zcells [Value.slice none 0 0] 2 = [.sc (.slice none 0 0), .sc (.slice none 0 0)] := rfl
  by_cases hil : i < ts.length
  · have ht := @htr i hil
    have hyes := fun hp => @find_yes _ _ _ ts (fitB w a) i hil hp hI
    have hno : fitB w a (nth ts i) = false → ∀ j, j < i + 1 → fitB w a (nth ts j) = false := fun e j hj => by
      rcases Nat.lt_or_ge j i with q | q
      · exact hI j q
      · obtain rfl : j = i := by omega
        exact e
    clear hI htr hin
    have hfd : fitB w a (nth ts i) = (decide (0 ≤ a - (nth ts i).2.2.2) && decide ((a - (nth ts i).2.2.2) + (nth ts i).1.length ≤ w.length) && decide ((w.drop (a - (nth ts i).2.2.2).toNat).take (nth ts i).1.length = (nth ts i).1)) := rfl
    have hcd : cutF w a (nth ts i) = (w.take (a - (nth ts i).2.2.2).toNat ++ (nth ts i).2.1, (nth ts i).2.2.1 ++ w.drop ((a - (nth ts i).2.2.2).toNat + (nth ts i).1.length)) := rfl
    by_cases hc : 0 ≤ a - (nth ts i).2.2.2 ∧ (a - (nth ts i).2.2.2) + (nth ts i).1.length ≤ w.length
    · obtain ⟨n, hn⟩ : ∃ n : Nat, a - (nth ts i).2.2.2 = (n : Int) := ⟨(a - (nth ts i).2.2.2).toNat, by omega⟩
      rw [hn] at hfd hcd
      simp only [Int.toNat_natCast] at hfd hcd
      have f1 : n + (nth ts i).1.length - n = (nth ts i).1.length := by omega
      have f2 : ((n : Int) + (nth ts i).1.length).toNat = n + (nth ts i).1.length := by omega
      have s1 := Same_ok ((w.drop n).take (nth ts i).1.length) (nth ts i).1
      by_cases hs : (w.drop n).take (nth ts i).1.length = (nth ts i).1
      · rw [decide_eq_true hs] at s1
        have hy := hyes (by rw [hfd, decide_eq_true hs]; simp; omega)
        rw [cutT, hy]
        dsimp only
        rw [hcd]
        have d1 := join_ok (w.take n) (nth ts i).2.1 (by rw [List.length_take]; omega)
        have d2 := join_ok (nth ts i).2.2.1 (w.drop (n + (nth ts i).1.length)) (by rw [List.length_drop]; omega)
        have e8 : List.take (w.length - (n + (nth ts i).1.length)) (List.drop (n + (nth ts i).1.length) w) = List.drop (n + (nth ts i).1.length) w := List.take_of_length_le (by rw [List.length_drop]; exact Nat.le_refl _)
        repeat' (first | with_reducible refine inw ?_ | simp (maxSteps := 900000) (disch := omega) only [go_sem, Nat.reduceEqDiff, ↓reduceIte, reduceCtorEq, Nat.reduceAdd, Nat.reduceMul, Int.reduceToNat, List.reduceReplicate, Nat.reduceLeDiff, Nat.reduceLT, Int.reduceLT, Int.reduceLE, Int.reduceEq, f1, f2, e8, z2, hn] | (with_reducible apply call_D (s1)); (focus simp (maxSteps := 900000) (disch := omega) only [go_sem, Nat.reduceEqDiff, ↓reduceIte, reduceCtorEq, Nat.reduceAdd, Nat.reduceMul, Int.reduceToNat, List.reduceReplicate, Nat.reduceLeDiff, Nat.reduceLT, Int.reduceLT, Int.reduceLE, Int.reduceEq, f1, f2, e8, z2, hn] <;> rfl) | (with_reducible apply call_D (d1)); (focus simp (maxSteps := 900000) (disch := omega) only [go_sem, Nat.reduceEqDiff, ↓reduceIte, reduceCtorEq, Nat.reduceAdd, Nat.reduceMul, Int.reduceToNat, List.reduceReplicate, Nat.reduceLeDiff, Nat.reduceLT, Int.reduceLT, Int.reduceLE, Int.reduceEq, f1, f2, e8, z2, hn] <;> rfl) | (with_reducible apply call_D (d2)); (focus simp (maxSteps := 900000) (disch := omega) only [go_sem, Nat.reduceEqDiff, ↓reduceIte, reduceCtorEq, Nat.reduceAdd, Nat.reduceMul, Int.reduceToNat, List.reduceReplicate, Nat.reduceLeDiff, Nat.reduceLT, Int.reduceLT, Int.reduceLE, Int.reduceEq, f1, f2, e8, z2, hn] <;> rfl) | with_reducible refine pickB_f ?_ | with_reducible refine giv_intro fun _h => ?_ | with_reducible refine alt_intro ?_ fun _h => ?_ | with_reducible refine pickD_nil ?_ | (with_reducible refine brc (fun _h => ?_) fun _h => ?_) <;> first | (exfalso; omega) | simp only [decide_eq_false _h] | simp only [(_h : (_ : Bool) = _)] | simp only [decide_eq_true _h] | skip)
        all_goals skip
      · rw [decide_eq_false hs] at s1
        replace hno := hno (by rw [hfd, decide_eq_false hs]; simp)
        repeat' (first | with_reducible refine inw ?_ | simp (maxSteps := 900000) (disch := omega) only [go_sem, Nat.reduceEqDiff, ↓reduceIte, reduceCtorEq, Nat.reduceAdd, Nat.reduceMul, Int.reduceToNat, List.reduceReplicate, Nat.reduceLeDiff, Nat.reduceLT, Int.reduceLT, Int.reduceLE, Int.reduceEq, f1, f2, hn] | (with_reducible apply call_D (s1)); (focus simp (maxSteps := 900000) (disch := omega) only [go_sem, Nat.reduceEqDiff, ↓reduceIte, reduceCtorEq, Nat.reduceAdd, Nat.reduceMul, Int.reduceToNat, List.reduceReplicate, Nat.reduceLeDiff, Nat.reduceLT, Int.reduceLT, Int.reduceLE, Int.reduceEq, f1, f2, hn] <;> rfl) | with_reducible refine pickB_f ?_ | with_reducible refine giv_intro fun _h => ?_ | with_reducible refine alt_intro ?_ fun _h => ?_ | with_reducible refine pickD_nil ?_ | (with_reducible refine brc (fun _h => ?_) fun _h => ?_) <;> first | (exfalso; omega) | simp only [decide_eq_false _h] | simp only [(_h : (_ : Bool) = _)] | simp only [decide_eq_true _h] | skip)
        all_goals exact ⟨i + 1, ⟨by omega, by omega, hno⟩, rfl⟩
    · replace hno := hno (by rw [hfd]; simp; omega)
      repeat' (first | with_reducible refine inw ?_ | simp (maxSteps := 900000) (disch := omega) only [go_sem, Nat.reduceEqDiff, ↓reduceIte, reduceCtorEq, Nat.reduceAdd, Nat.reduceMul, Int.reduceToNat, List.reduceReplicate, Nat.reduceLeDiff, Nat.reduceLT, Int.reduceLT, Int.reduceLE, Int.reduceEq] | with_reducible refine pickB_f ?_ | with_reducible refine giv_intro fun _h => ?_ | with_reducible refine alt_intro ?_ fun _h => ?_ | with_reducible refine pickD_nil ?_ | (with_reducible refine brc (fun _h => ?_) fun _h => ?_) <;> first | (exfalso; omega) | simp only [decide_eq_false _h] | simp only [(_h : (_ : Bool) = _)] | simp only [decide_eq_true _h] | skip)
      all_goals exact ⟨i + 1, ⟨by omega, by omega, hno⟩, rfl⟩
  · have hnone := @find_no _ _ _ ts (fitB w a) (fun j hj => hI j (by omega))
    rw [cutT, hnone]
    dsimp only
    have l1 : (w.take a.toNat).length = a.toNat := by rw [List.length_take]; omega
    have l2 : (w.drop a.toNat).length = w.length - a.toNat := by rw [List.length_drop]
    have e8 : List.take (w.length - a.toNat) (List.drop a.toNat w) = List.drop a.toNat w := List.take_of_length_le (by rw [List.length_drop]; exact Nat.le_refl _)
    repeat' (first | with_reducible refine inw ?_ | simp (maxSteps := 900000) (disch := omega) only [go_sem, Nat.reduceEqDiff, ↓reduceIte, reduceCtorEq, Nat.reduceAdd, Nat.reduceMul, Int.reduceToNat, List.reduceReplicate, Nat.reduceLeDiff, Nat.reduceLT, Int.reduceLT, Int.reduceLE, Int.reduceEq, e8, l1, l2, Nat.sub_zero] | with_reducible refine pickB_f ?_ | with_reducible refine giv_intro fun _h => ?_ | with_reducible refine alt_intro ?_ fun _h => ?_ | with_reducible refine pickD_nil ?_ | (with_reducible refine brc (fun _h => ?_) fun _h => ?_) <;> first | (exfalso; omega) | simp only [decide_eq_false _h] | simp only [(_h : (_ : Bool) = _)] | simp only [decide_eq_true _h] | skip)
    all_goals skip
/-- ablaut/ablautlaw24.HyphTurns: 3 parameters, 0 captured -/
def s5 : SC := .seq (.reg [o1 3 (.box 37 5 (.t 0)),
   o1 6 (.mv (cB false))])
  (.seq (.seq (.reg [o1 13 (.load (some 5) (.t 3)),
     o1 14 (.call (.f 14) [(.t 13)]),
     o1 15 (.mv (.t 14)),
     oF 16 (.mv (.t 1)) 15,
     oF 17 (.buildSl 22 1 1 [(.slice none 0 0)] [(0, 1, (.t 16))]) 15,
     oF 18 (.call (.f 15) [(.t 17)]) 15,
     o1 19 (.pick (.t 15) (cB true) (.t 18))])
    (.cond (.t 19) (.seq (.reg [o1 20 (.call (.f 11) []),
       o1 6 (.mv (.t 20))])
      (.ret)) (.skip)))
   (.seq (.reg [o1 22 (.load (some 5) (.t 3)),
     o1 23 (.mv (.t 1)),
     o1 24 (.mv (.t 2)),
     o1 25 (.call (.f 23) [(.t 22), (.t 23), (.t 24)]),
     o1 21 (.mv (.t 25)),
     o1 26 (.ext (.t 21) 0),
     o1 27 (.ext (.t 21) 1),
     o1 28 (.ext (.t 21) 2),
     o1 7 (.mv (.t 26)),
     o1 8 (.mv (.t 27)),
     o1 9 (.mv (.t 28))])
    (.seq (.reg [o1 30 (.load (some 5) (.t 3)),
      o1 31 (.mv (.t 1)),
      o1 32 (.mv (.t 2)),
      o1 33 (.call (.f 24) [(.t 30), (.t 31), (.t 32)]),
      o1 29 (.mv (.t 33)),
      o1 34 (.ext (.t 29) 0),
      o1 35 (.ext (.t 29) 1),
      o1 36 (.ext (.t 29) 2),
      o1 10 (.mv (.t 34)),
      o1 11 (.mv (.t 35)),
      o1 12 (.mv (.t 36))])
     (.seq (.reg [o1 37 (.mv (.t 7)),
       o1 38 (.mv (.t 10)),
       o1 39 (.call (.f 25) [(.t 37), (.t 38)]),
       o1 40 (.mv (.t 39)),
       oT 41 (.mv (.t 8)) 40,
       oT 42 (.mv (.t 11)) 40,
       oT 43 (.call (.f 25) [(.t 41), (.t 42)]) 40,
       o1 44 (.pick (.t 40) (.t 43) (cB false)),
       o1 45 (.mv (.t 44)),
       oT 46 (.mv (.t 9)) 45,
       oT 47 (.mv (.t 12)) 45,
       oT 48 (.bin .eql (.t 46) (.t 47)) 45,
       o1 49 (.pick (.t 45) (.t 48) (cB false)),
       o1 50 (.mv (.t 49)),
       oT 51 (.call (.f 11) []) 50,
       o1 52 (.pick (.t 50) (.t 51) (cB false)),
       o1 6 (.mv (.t 52))])
      (.ret)))))
theorem s5_ok : lookF Try.prog 5 = some (s5, 53, [.tmp 6]) := by kernel_rfl
theorem HyphTurns_ok (h : Book) (w : List Str) (a : Int) : Fn P 5 [bkA h, sl w, intA a] (boolA true) := by
  have c0 := over_ok h
  have c1 := hBreak_ok h w a
  have c2 := rBreak_ok h w a
  generalize brkF h w a = R at *
  obtain ⟨l1, l2, e⟩ := R
  have d1 := Same_ok l1 l1
  have d2 := Same_ok l2 l2
  rw [decide_eq_true rfl] at d1 d2
  obtain ⟨lf, rt, ps, xs, ts⟩ := h
  have z1 : zcells [Value.slice none 0 0] 1 = [.sc (.slice none 0 0)] := rfl
  (refine fn_look s5_ok (by simp) (by intro k; simp only [go_sem, Nat.reduceEqDiff, ↓reduceIte, reduceCtorEq, Nat.reduceAdd, Nat.reduceMul, Int.reduceToNat, List.reduceReplicate, Nat.reduceLeDiff, Nat.reduceLT, Int.reduceLT, Int.reduceLE, Int.reduceEq]) fun S hS => cwp_sound _ _ _ _ ?_; simp (maxSteps := 900000) (disch := omega) only [s5, go_sem, Nat.reduceEqDiff, ↓reduceIte, reduceCtorEq, Nat.reduceAdd, Nat.reduceMul, Int.reduceToNat, List.reduceReplicate, Nat.reduceLeDiff, Nat.reduceLT, Int.reduceLT, Int.reduceLE, Int.reduceEq])
  repeat' (first | with_reducible refine inw ?_ | simp (maxSteps := 900000) (disch := omega) only [go_sem, Nat.reduceEqDiff, ↓reduceIte, reduceCtorEq, Nat.reduceAdd, Nat.reduceMul, Int.reduceToNat, List.reduceReplicate, Nat.reduceLeDiff, Nat.reduceLT, Int.reduceLT, Int.reduceLE, Int.reduceEq, z1] | (with_reducible apply callR (c0)); (focus simp (maxSteps := 900000) (disch := omega) only [go_sem, Nat.reduceEqDiff, ↓reduceIte, reduceCtorEq, Nat.reduceAdd, Nat.reduceMul, Int.reduceToNat, List.reduceReplicate, Nat.reduceLeDiff, Nat.reduceLT, Int.reduceLT, Int.reduceLE, Int.reduceEq, z1] <;> rfl); rintro _ ⟨_, rfl⟩ | (with_reducible apply callR_lend (lIsLong_ok [w])); (focus simp (maxSteps := 900000) (disch := omega) only [go_sem, Nat.reduceEqDiff, ↓reduceIte, reduceCtorEq, Nat.reduceAdd, Nat.reduceMul, Int.reduceToNat, List.reduceReplicate, Nat.reduceLeDiff, Nat.reduceLT, Int.reduceLT, Int.reduceLE, Int.reduceEq, z1] <;> rfl); (focus (rintro _ ⟨_, rfl⟩; rfl)); rintro _ ⟨_, rfl⟩ | (with_reducible apply call (known_ok)); (focus simp (maxSteps := 900000) (disch := omega) only [go_sem, Nat.reduceEqDiff, ↓reduceIte, reduceCtorEq, Nat.reduceAdd, Nat.reduceMul, Int.reduceToNat, List.reduceReplicate, Nat.reduceLeDiff, Nat.reduceLT, Int.reduceLT, Int.reduceLE, Int.reduceEq, z1] <;> rfl) | (with_reducible apply call (c1)); (focus simp (maxSteps := 900000) (disch := omega) only [go_sem, Nat.reduceEqDiff, ↓reduceIte, reduceCtorEq, Nat.reduceAdd, Nat.reduceMul, Int.reduceToNat, List.reduceReplicate, Nat.reduceLeDiff, Nat.reduceLT, Int.reduceLT, Int.reduceLE, Int.reduceEq, z1] <;> rfl) | (with_reducible apply call (c2)); (focus simp (maxSteps := 900000) (disch := omega) only [go_sem, Nat.reduceEqDiff, ↓reduceIte, reduceCtorEq, Nat.reduceAdd, Nat.reduceMul, Int.reduceToNat, List.reduceReplicate, Nat.reduceLeDiff, Nat.reduceLT, Int.reduceLT, Int.reduceLE, Int.reduceEq, z1] <;> rfl) | (with_reducible apply call (d1)); (focus simp (maxSteps := 900000) (disch := omega) only [go_sem, Nat.reduceEqDiff, ↓reduceIte, reduceCtorEq, Nat.reduceAdd, Nat.reduceMul, Int.reduceToNat, List.reduceReplicate, Nat.reduceLeDiff, Nat.reduceLT, Int.reduceLT, Int.reduceLE, Int.reduceEq, z1] <;> rfl) | (with_reducible apply callR (d2)); (focus simp (maxSteps := 900000) (disch := omega) only [go_sem, Nat.reduceEqDiff, ↓reduceIte, reduceCtorEq, Nat.reduceAdd, Nat.reduceMul, Int.reduceToNat, List.reduceReplicate, Nat.reduceLeDiff, Nat.reduceLT, Int.reduceLT, Int.reduceLE, Int.reduceEq, z1] <;> rfl); rintro _ ⟨_, rfl⟩ | (with_reducible apply call_D (d2)); (focus simp (maxSteps := 900000) (disch := omega) only [go_sem, Nat.reduceEqDiff, ↓reduceIte, reduceCtorEq, Nat.reduceAdd, Nat.reduceMul, Int.reduceToNat, List.reduceReplicate, Nat.reduceLeDiff, Nat.reduceLT, Int.reduceLT, Int.reduceLE, Int.reduceEq, z1] <;> rfl) | (with_reducible apply callR (known_ok)); (focus simp (maxSteps := 900000) (disch := omega) only [go_sem, Nat.reduceEqDiff, ↓reduceIte, reduceCtorEq, Nat.reduceAdd, Nat.reduceMul, Int.reduceToNat, List.reduceReplicate, Nat.reduceLeDiff, Nat.reduceLT, Int.reduceLT, Int.reduceLE, Int.reduceEq, z1] <;> rfl); rintro _ ⟨_, rfl⟩ | (with_reducible apply call (d2)); (focus simp (maxSteps := 900000) (disch := omega) only [go_sem, Nat.reduceEqDiff, ↓reduceIte, reduceCtorEq, Nat.reduceAdd, Nat.reduceMul, Int.reduceToNat, List.reduceReplicate, Nat.reduceLeDiff, Nat.reduceLT, Int.reduceLT, Int.reduceLE, Int.reduceEq, z1] <;> rfl) | with_reducible refine pickB_f ?_ | with_reducible refine giv_intro fun _h => ?_ | with_reducible refine alt_intro ?_ fun _h => ?_ | with_reducible refine pickD_nil ?_ | (with_reducible refine brc (fun _h => ?_) fun _h => ?_) <;> first | (exfalso; omega) | simp only [decide_eq_false _h] | simp only [(_h : (_ : Bool) = _)] | simp only [decide_eq_true _h] | skip)
  all_goals skip
end Go.Proofs.Ytfihpbeihlpfcaa.Ev

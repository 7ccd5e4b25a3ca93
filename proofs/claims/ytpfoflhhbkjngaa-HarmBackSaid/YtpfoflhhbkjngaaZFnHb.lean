/- What a symbol is by sounds: the reference's rows, the program's map. -/
import Derived.Test.YtpfoflhhbkjngaaZFnHa
set_option linter.unusedVariables false
set_option linter.unusedSimpArgs false
namespace Go.Proofs.Ytpfoflhhbkjngaa.Ev
open Go Go.Proofs

abbrev sndA (l : List Sound) : AV := .agg [sl l]
def rowR (l : List Sound) (x : Str) : Sound := (l.find? fun r => decide (r.1 = x)).getD (x, 0, false, 0)
def vowR (l : List Sound) (x : Str) : Bool := (rowR l x).2.2.1
abbrev zSound : Ob := .row 74 4 [strA ⟨#[]⟩, intA 0, boolA false, intA 0]
/-- ablaut/ablautref13.row: 2 parameters, 0 captured -/
def s117 : SC := .seq (.reg [o1 2 (.box 37 1 (.t 0)),
   o1 4 (.alloc 74 4 [(.string ⟨#[]⟩), (.int .i64 0), (.bool false), (.int .i64 0)])])
  (.seq (.seq (.reg [o1 5 (.mv (cI 0))])
    (.block 0 (.loop (.seq (.seq (.reg [o1 6 (.mv (.t 5)),
         o1 7 (.faddr 0 (.t 2)),
         o1 8 (.load none (.t 7)),
         o1 9 (.lenL (.t 8)),
         o1 10 (.bin .lss (.t 6) (.t 9))])
        (.cond (.t 10) (.skip) (.exit 0)))
       (.seq (.block 1 (.seq (.reg [o1 13 (.faddr 0 (.t 2)),
           o1 14 (.load none (.t 13)),
           o1 15 (.mv (.t 5)),
           o1 16 (.iaddr 4 (.t 14) (.t 15)),
           o1 17 (.faddr 0 (.t 16)),
           o1 18 (.load none (.t 17)),
           o1 19 (.mv (.t 1)),
           o1 20 (.bin .eql (.t 18) (.t 19))])
          (.cond (.t 20) (.seq (.reg [o1 21 (.faddr 0 (.t 2)),
             o1 22 (.load none (.t 21)),
             o1 23 (.mv (.t 5)),
             o1 24 (.iaddr 4 (.t 22) (.t 23)),
             o1 25 (.load (some 4) (.t 24)),
             o0 (.store 4 (.t 4) (.t 25))])
            (.ret)) (.skip))))
        (.reg [o1 11 (.mv (.t 5)),
         o1 12 (.bin .add (.t 11) (cI 1)),
         o1 5 (.mv (.t 12))]))))))
   (.seq (.reg [o1 26 (.mv (.t 1)),
     o1 27 (.build [(.string ⟨#[]⟩), (.int .i64 0), (.bool false), (.int .i64 0)] [(0, 1, (.t 26))]),
     o0 (.store 4 (.t 4) (.t 27))])
    (.ret)))
theorem s117_ok : lookF Try.prog 117 = some (s117, 28, [.cell 4 (some 4)]) := by kernel_rfl
theorem rRow_ok (l : List Sound) (x : Str) : Fn P 117 [sndA l, strA x] (valA (rowR l x)) := by
  (refine fn_look s117_ok (by simp) (by intro k; simp only [go_sem, Nat.reduceEqDiff, ↓reduceIte, reduceCtorEq, Nat.reduceAdd, Nat.reduceMul, Int.reduceToNat, List.reduceReplicate, Nat.reduceLeDiff, Nat.reduceLT, Int.reduceLT, Int.reduceLE, Int.reduceEq]) fun S hS => cwp_sound _ _ _ _ ?_; simp (maxSteps := 900000) (disch := omega) only [s117, go_sem, Nat.reduceEqDiff, ↓reduceIte, reduceCtorEq, Nat.reduceAdd, Nat.reduceMul, Int.reduceToNat, List.reduceReplicate, Nat.reduceLeDiff, Nat.reduceLT, Int.reduceLT, Int.reduceLE, Int.reduceEq])
  repeat' (first | with_reducible refine inw ?_ | simp (maxSteps := 900000) (disch := omega) only [go_sem, Nat.reduceEqDiff, ↓reduceIte, reduceCtorEq, Nat.reduceAdd, Nat.reduceMul, Int.reduceToNat, List.reduceReplicate, Nat.reduceLeDiff, Nat.reduceLT, Int.reduceLT, Int.reduceLE, Int.reduceEq] | with_reducible refine pickB_f ?_ | with_reducible refine giv_intro fun _h => ?_ | with_reducible refine alt_intro ?_ fun _h => ?_ | with_reducible refine pickD_nil ?_ | (with_reducible refine brc (fun _h => ?_) fun _h => ?_) <;> first | (exfalso; omega) | simp only [decide_eq_false _h] | simp only [(_h : (_ : Bool) = _)] | simp only [decide_eq_true _h] | skip)
  (refine loopC hS [1, 2, 4] (by simp only [go_sem, Nat.reduceEqDiff, ↓reduceIte, reduceCtorEq, Nat.reduceAdd, Nat.reduceMul, Int.reduceToNat, List.reduceReplicate, Nat.reduceLeDiff, Nat.reduceLT, Int.reduceLT, Int.reduceLE, Int.reduceEq]; try rfl) (fun (i : Nat) => [(5, intA i)]) (fun (i : Nat) => [some (.row 37 1 [sl l]), some zSound]) (fun (i : Nat) => i ≤ l.length ∧ l.find? (fun r => decide (r.1 = x)) = (l.drop i).find? (fun r => decide (r.1 = x))) (fun (i : Nat) => l.length - i) (0) ?_ (by intro s; first | (simp only [List.length_cons, List.length_nil]; done) | rfl | (rcases s with ⟨_, _⟩; rfl) | (rcases s with ⟨_, _, _⟩; rfl) | (rcases s with ⟨_, _, _, _⟩; rfl) | (rcases s with ⟨_, _, _, _, _⟩; rfl)) ?_)
  · simp (maxSteps := 900000) (disch := omega) only [go_sem, Nat.reduceEqDiff, ↓reduceIte, reduceCtorEq, Nat.reduceAdd, Nat.reduceMul, Int.reduceToNat, List.reduceReplicate, Nat.reduceLeDiff, Nat.reduceLT, Int.reduceLT, Int.reduceLE, Int.reduceEq]; simp
  rintro i ⟨hi, hI⟩
  replace hi : i ≤ l.length := hi
  replace hI : l.find? (fun r => decide (r.1 = x)) = (l.drop i).find? (fun r => decide (r.1 = x)) := hI
  by_cases hil : i < l.length
  · rw [nth_drop hil] at hI
    repeat' (first | with_reducible refine inw ?_ | simp (maxSteps := 900000) (disch := omega) only [go_sem, Nat.reduceEqDiff, ↓reduceIte, reduceCtorEq, Nat.reduceAdd, Nat.reduceMul, Int.reduceToNat, List.reduceReplicate, Nat.reduceLeDiff, Nat.reduceLT, Int.reduceLT, Int.reduceLE, Int.reduceEq] | with_reducible refine pickB_f ?_ | with_reducible refine giv_intro fun _h => ?_ | with_reducible refine alt_intro ?_ fun _h => ?_ | with_reducible refine pickD_nil ?_ | (with_reducible refine brc (fun _h => ?_) fun _h => ?_) <;> first | (exfalso; omega) | simp only [decide_eq_false _h] | simp only [(_h : (_ : Bool) = _)] | simp only [decide_eq_true _h] | skip)
    · have e : rowR l x = nth l i := by rw [rowR, hI, List.find?_cons, decide_eq_true _h]; rfl
      rw [e]
    · refine ⟨i + 1, ⟨by omega, by omega, ?_⟩, by omega⟩
      rw [hI, List.find?_cons, decide_eq_false _h]
  · rw [drop_end (by omega)] at hI
    have e : rowR l x = (x, 0, false, 0) := by rw [rowR, hI]; rfl
    rw [e]
    repeat' (first | with_reducible refine inw ?_ | simp (maxSteps := 900000) (disch := omega) only [go_sem, Nat.reduceEqDiff, ↓reduceIte, reduceCtorEq, Nat.reduceAdd, Nat.reduceMul, Int.reduceToNat, List.reduceReplicate, Nat.reduceLeDiff, Nat.reduceLT, Int.reduceLT, Int.reduceLE, Int.reduceEq] | with_reducible refine pickB_f ?_ | with_reducible refine giv_intro fun _h => ?_ | with_reducible refine alt_intro ?_ fun _h => ?_ | with_reducible refine pickD_nil ?_ | (with_reducible refine brc (fun _h => ?_) fun _h => ?_) <;> first | (exfalso; omega) | simp only [decide_eq_false _h] | simp only [(_h : (_ : Bool) = _)] | simp only [decide_eq_true _h] | skip)
theorem bool_bel (r : AV) (h : ∃ n : Bool, r = boolA n) (k : Nat) : r.bel k := by obtain ⟨n, rfl⟩ := h; simp only [go_sem, Nat.reduceEqDiff, ↓reduceIte, reduceCtorEq, Nat.reduceAdd, Nat.reduceMul, Int.reduceToNat, List.reduceReplicate, Nat.reduceLeDiff, Nat.reduceLT, Int.reduceLT, Int.reduceLE, Int.reduceEq]
/-- ablaut/ablautlaw13.over: 1 parameters, 0 captured -/
def s25 : SC := .seq (.reg [o1 1 (.box 37 1 (.t 0)),
   o1 2 (.mv (cB false))])
  (.seq (.reg [o1 5 (.faddr 0 (.t 1)),
    o1 6 (.load none (.t 5)),
    o1 7 (.lenL (.t 6)),
    o1 3 (.mv (.t 7))])
   (.seq (.seq (.reg [o1 4 (.mv (cI 0))])
     (.block 0 (.loop (.seq (.seq (.reg [o1 8 (.mv (.t 4)),
          o1 9 (.faddr 0 (.t 1)),
          o1 10 (.load none (.t 9)),
          o1 11 (.lenL (.t 10)),
          o1 12 (.bin .lss (.t 8) (.t 11)),
          o1 13 (.mv (.t 12)),
          oT 14 (.mv (.t 3)) 13,
          oT 15 (.bin .leq (.t 14) (cI 32000)) 13,
          o1 16 (.pick (.t 13) (.t 15) (cB false))])
         (.cond (.t 16) (.skip) (.exit 0)))
        (.seq (.block 1 (.reg [o1 19 (.mv (.t 3)),
           o1 20 (.faddr 0 (.t 1)),
           o1 21 (.load none (.t 20)),
           o1 22 (.mv (.t 4)),
           o1 23 (.iaddr 4 (.t 21) (.t 22)),
           o1 24 (.faddr 0 (.t 23)),
           o1 25 (.load none (.t 24)),
           o1 26 (.lenS (.t 25)),
           o1 27 (.bin .add (.t 19) (.t 26)),
           o1 3 (.mv (.t 27))]))
         (.reg [o1 17 (.mv (.t 4)),
          o1 18 (.bin .add (.t 17) (cI 1)),
          o1 4 (.mv (.t 18))]))))))
    (.seq (.reg [o1 28 (.mv (.t 3)),
      o1 29 (.bin .gtr (.t 28) (cI 32000)),
      o1 2 (.mv (.t 29))])
     (.ret))))
theorem s25_ok : lookF Try.prog 25 = some (s25, 30, [.tmp 2]) := by kernel_rfl
theorem over_ok (l : List Sound) : FnR P 25 [sndA l] fun r => ∃ b : Bool, r = boolA b := by
  (refine fnR_look s25_ok (by simp) (bool_bel) fun S hS => cwp_sound _ _ _ _ ?_; simp (maxSteps := 900000) (disch := omega) only [s25, go_sem, Nat.reduceEqDiff, ↓reduceIte, reduceCtorEq, Nat.reduceAdd, Nat.reduceMul, Int.reduceToNat, List.reduceReplicate, Nat.reduceLeDiff, Nat.reduceLT, Int.reduceLT, Int.reduceLE, Int.reduceEq])
  repeat' (first | with_reducible refine inw ?_ | simp (maxSteps := 900000) (disch := omega) only [go_sem, Nat.reduceEqDiff, ↓reduceIte, reduceCtorEq, Nat.reduceAdd, Nat.reduceMul, Int.reduceToNat, List.reduceReplicate, Nat.reduceLeDiff, Nat.reduceLT, Int.reduceLT, Int.reduceLE, Int.reduceEq] | with_reducible refine pickB_f ?_ | with_reducible refine giv_intro fun _h => ?_ | with_reducible refine alt_intro ?_ fun _h => ?_ | with_reducible refine pickD_nil ?_ | (with_reducible refine brc (fun _h => ?_) fun _h => ?_) <;> first | (exfalso; omega) | simp only [decide_eq_false _h] | simp only [(_h : (_ : Bool) = _)] | simp only [decide_eq_true _h] | skip)
  (refine loopC hS [1] (by simp only [go_sem, Nat.reduceEqDiff, ↓reduceIte, reduceCtorEq, Nat.reduceAdd, Nat.reduceMul, Int.reduceToNat, List.reduceReplicate, Nat.reduceLeDiff, Nat.reduceLT, Int.reduceLT, Int.reduceLE, Int.reduceEq]; try rfl) (fun (⟨i, n⟩ : Nat × Int) => [(3, intA n), (4, intA i)]) (fun (⟨i, n⟩ : Nat × Int) => [some (.row 37 1 [sl l])]) (fun (⟨i, n⟩ : Nat × Int) => i ≤ l.length) (fun (⟨i, n⟩ : Nat × Int) => l.length - i) ((0, (l.length : Int))) ?_ (by intro s; first | (simp only [List.length_cons, List.length_nil]; done) | rfl | (rcases s with ⟨_, _⟩; rfl) | (rcases s with ⟨_, _, _⟩; rfl) | (rcases s with ⟨_, _, _, _⟩; rfl) | (rcases s with ⟨_, _, _, _, _⟩; rfl)) ?_)
  · simp (maxSteps := 900000) (disch := omega) only [go_sem, Nat.reduceEqDiff, ↓reduceIte, reduceCtorEq, Nat.reduceAdd, Nat.reduceMul, Int.reduceToNat, List.reduceReplicate, Nat.reduceLeDiff, Nat.reduceLT, Int.reduceLT, Int.reduceLE, Int.reduceEq]; simp
  rintro ⟨i, n⟩ hi
  replace hi : i ≤ l.length := hi
  repeat' (first | with_reducible refine inw ?_ | simp (maxSteps := 900000) (disch := omega) only [go_sem, Nat.reduceEqDiff, ↓reduceIte, reduceCtorEq, Nat.reduceAdd, Nat.reduceMul, Int.reduceToNat, List.reduceReplicate, Nat.reduceLeDiff, Nat.reduceLT, Int.reduceLT, Int.reduceLE, Int.reduceEq] | with_reducible refine pickB_f ?_ | with_reducible refine giv_intro fun _h => ?_ | with_reducible refine alt_intro ?_ fun _h => ?_ | with_reducible refine pickD_nil ?_ | (with_reducible refine brc (fun _h => ?_) fun _h => ?_) <;> first | (exfalso; omega) | simp only [decide_eq_false _h] | simp only [(_h : (_ : Bool) = _)] | simp only [decide_eq_true _h] | skip)
  · exact ⟨(i + 1, _), ⟨by omega, by omega⟩, rfl, by omega⟩
  · exact ⟨_, rfl⟩
  · exact ⟨_, rfl⟩
/-! ### the map -/
def ofM (l : List Sound) : List (Str × Sound) := l.foldl (fun m r => putM m r.1 r) []
theorem zS (o : Option Sound) : getZ (.agg #[.string ⟨#[]⟩, .int .i64 0, .bool false, .int .i64 0]) (o.map valA) = valA (o.getD (⟨#[]⟩, 0, false, 0)) := by
  cases o <;> rfl
theorem uS (m : List (Str × Sound)) (s : Str) (r : Sound) : updE (mapC m) (.string s) (.agg [strA r.1, intA r.2.1, boolA r.2.2.1, intA r.2.2.2]) = mapC (putM m s r) := updE_map m s r
def vowM (m : List (Str × Sound)) (x : Str) : Bool := ((getM m x).getD (⟨#[]⟩, 0, false, 0)).2.2.1
/-- ablaut/harm.of: 1 parameters, 0 captured -/
def s63 : SC := .seq (.reg [o1 1 (.box 37 1 (.t 0)),
   o1 2 (.mv (.c (.map none)))])
  (.seq (.reg [o1 6 (.mkmap),
    o1 3 (.mv (.t 6))])
   (.seq (.seq (.reg [o1 7 (.faddr 0 (.t 1)),
      o1 8 (.load none (.t 7)),
      o1 9 (.lenL (.t 8)),
      o1 10 (.mv (cI 0))])
     (.block 0 (.loop (.seq (.reg [o1 11 (.bin .lss (.t 10) (.t 9))])
        (.seq (.cond (.t 11) (.skip) (.exit 0))
         (.seq (.block 1 (.seq (.reg [o1 12 (.iaddr 4 (.t 8) (.t 10)),
             o1 13 (.load (some 4) (.t 12)),
             o1 5 (.alloc 74 4 [(.string ⟨#[]⟩), (.int .i64 0), (.bool false), (.int .i64 0)]),
             o0 (.store 4 (.t 5) (.t 13))])
            (.reg [o1 14 (.mv (.t 3)),
             o1 15 (.faddr 0 (.t 5)),
             o1 16 (.load none (.t 15)),
             o1 17 (.load (some 4) (.t 5)),
             o0 (.mupd .str (.t 14) (.t 16) (.t 17))])))
          (.reg [o1 18 (.bin .add (.t 10) (cI 1)),
           o1 10 (.mv (.t 18))])))))))
    (.seq (.reg [o1 19 (.mv (.t 3)),
      o1 2 (.mv (.t 19))])
     (.ret))))
theorem s63_ok : lookF Try.prog 63 = some (s63, 20, [.tmp 2]) := by kernel_rfl
theorem of_ok (l : List Sound) : Fn P 63 [sndA l] (romA (ofM l)) := by
  (refine fn_look s63_ok (by simp) (by intro k; simp only [go_sem, Nat.reduceEqDiff, ↓reduceIte, reduceCtorEq, Nat.reduceAdd, Nat.reduceMul, Int.reduceToNat, List.reduceReplicate, Nat.reduceLeDiff, Nat.reduceLT, Int.reduceLT, Int.reduceLE, Int.reduceEq]) fun S hS => cwp_sound _ _ _ _ ?_; simp (maxSteps := 900000) (disch := omega) only [s63, go_sem, Nat.reduceEqDiff, ↓reduceIte, reduceCtorEq, Nat.reduceAdd, Nat.reduceMul, Int.reduceToNat, List.reduceReplicate, Nat.reduceLeDiff, Nat.reduceLT, Int.reduceLT, Int.reduceLE, Int.reduceEq])
  repeat' (first | with_reducible refine inw ?_ | simp (maxSteps := 900000) (disch := omega) only [go_sem, Nat.reduceEqDiff, ↓reduceIte, reduceCtorEq, Nat.reduceAdd, Nat.reduceMul, Int.reduceToNat, List.reduceReplicate, Nat.reduceLeDiff, Nat.reduceLT, Int.reduceLT, Int.reduceLE, Int.reduceEq] | with_reducible refine pickB_f ?_ | with_reducible refine giv_intro fun _h => ?_ | with_reducible refine alt_intro ?_ fun _h => ?_ | with_reducible refine pickD_nil ?_ | (with_reducible refine brc (fun _h => ?_) fun _h => ?_) <;> first | (exfalso; omega) | simp only [decide_eq_false _h] | simp only [(_h : (_ : Bool) = _)] | simp only [decide_eq_true _h] | skip)
  (refine loopC hS [3, 8, 9] (by simp only [go_sem, Nat.reduceEqDiff, ↓reduceIte, reduceCtorEq, Nat.reduceAdd, Nat.reduceMul, Int.reduceToNat, List.reduceReplicate, Nat.reduceLeDiff, Nat.reduceLT, Int.reduceLT, Int.reduceLE, Int.reduceEq]; try rfl) (fun (⟨i, m⟩ : Nat × List (Str × Sound)) => [(10, intA i)]) (fun (⟨i, m⟩ : Nat × List (Str × Sound)) => [none, mpO m]) (fun (⟨i, m⟩ : Nat × List (Str × Sound)) => i ≤ l.length ∧ m = ofM (l.take i)) (fun (⟨i, m⟩ : Nat × List (Str × Sound)) => l.length - i) ((0, [])) ?_ (by intro s; first | (simp only [List.length_cons, List.length_nil]; done) | rfl | (rcases s with ⟨_, _⟩; rfl) | (rcases s with ⟨_, _, _⟩; rfl) | (rcases s with ⟨_, _, _, _⟩; rfl) | (rcases s with ⟨_, _, _, _, _⟩; rfl)) ?_)
  · simp (maxSteps := 900000) (disch := omega) only [go_sem, Nat.reduceEqDiff, ↓reduceIte, reduceCtorEq, Nat.reduceAdd, Nat.reduceMul, Int.reduceToNat, List.reduceReplicate, Nat.reduceLeDiff, Nat.reduceLT, Int.reduceLT, Int.reduceLE, Int.reduceEq]; simp [ofM]
  rintro ⟨i, m⟩ ⟨hi, hm⟩
  replace hi : i ≤ l.length := hi
  replace hm : m = ofM (l.take i) := hm
  by_cases hil : i < l.length
  · repeat' (first | with_reducible refine inw ?_ | simp (maxSteps := 900000) (disch := omega) only [go_sem, Nat.reduceEqDiff, ↓reduceIte, reduceCtorEq, Nat.reduceAdd, Nat.reduceMul, Int.reduceToNat, List.reduceReplicate, Nat.reduceLeDiff, Nat.reduceLT, Int.reduceLT, Int.reduceLE, Int.reduceEq, uS] | with_reducible refine pickB_f ?_ | with_reducible refine giv_intro fun _h => ?_ | with_reducible refine alt_intro ?_ fun _h => ?_ | with_reducible refine pickD_nil ?_ | (with_reducible refine brc (fun _h => ?_) fun _h => ?_) <;> first | (exfalso; omega) | simp only [decide_eq_false _h] | simp only [(_h : (_ : Bool) = _)] | simp only [decide_eq_true _h] | skip)
    refine ⟨(i + 1, putM m (nth l i).1 (nth l i)), ⟨by dsimp only; omega, by dsimp only; omega, ?_⟩, by dsimp only; omega, rfl⟩
    dsimp only
    rw [List.take_add_one, nth_get? hil, hm]; simp [ofM]
  · repeat' (first | with_reducible refine inw ?_ | simp (maxSteps := 900000) (disch := omega) only [go_sem, Nat.reduceEqDiff, ↓reduceIte, reduceCtorEq, Nat.reduceAdd, Nat.reduceMul, Int.reduceToNat, List.reduceReplicate, Nat.reduceLeDiff, Nat.reduceLT, Int.reduceLT, Int.reduceLE, Int.reduceEq] | with_reducible refine pickB_f ?_ | with_reducible refine giv_intro fun _h => ?_ | with_reducible refine alt_intro ?_ fun _h => ?_ | with_reducible refine pickD_nil ?_ | (with_reducible refine brc (fun _h => ?_) fun _h => ?_) <;> first | (exfalso; omega) | simp only [decide_eq_false _h] | simp only [(_h : (_ : Bool) = _)] | simp only [decide_eq_true _h] | skip)
    rw [hm, List.take_of_length_le (by omega)]
theorem getM_of {x : Str} : ∀ (l : List Sound) (m : List (Str × Sound)), l.Pairwise (fun a b => a.1 ≠ b.1) → getM (l.foldl (fun m r => putM m r.1 r) m) x = (l.find? fun r => decide (r.1 = x)).or (getM m x)
  | [], m, _ => by simp
  | r :: l, m, h => by
    obtain ⟨h1, h2⟩ := List.pairwise_cons.1 h
    rw [List.foldl_cons, getM_of l _ h2, getM_putM, List.find?_cons]
    by_cases e : r.1 = x
    · have hn : (l.find? fun r => decide (r.1 = x)) = none := List.find?_eq_none.2 fun q hq => by simp; rw [← e]; exact (h1 q hq).symm
      rw [hn, decide_eq_true e, if_pos e.symm]; rfl
    · rw [decide_eq_false e, if_neg (Ne.symm e)]
theorem snd_distinct {l : List Sound} (h : sndErr l = 0) : l.Pairwise (fun a b => a.1 ≠ b.1) := by
  have hb : ∀ j, j < l.length → badS l j = false := by
    unfold sndErr at h
    split at h
    · cases h
    · split at h
      · cases h
      · rename_i h2
        intro j hj
        rw [← Bool.not_eq_true]; intro h3
        exact h2 (List.any_eq_true.2 ⟨j, List.mem_range.2 hj, h3⟩)
  have hs : ∀ j, 0 < j → j < l.length → ltB (nth l (j - 1)).1 (nth l j).1 = true := fun j h0 hj => by
    have := hb j hj
    simp only [badS, Bool.or_eq_false_iff, Bool.and_eq_false_iff, Bool.not_eq_false', decide_eq_false_iff_not] at this
    rcases this.1.1.1.1.2 with h1 | h1
    · omega
    · exact h1
  have hp : ∀ d i, i + d + 1 < l.length → ltB (nth l i).1 (nth l (i + d + 1)).1 = true := by
    intro d
    induction d with
    | zero => intro i hi; exact hs (i + 1) (by omega) hi
    | succ d ih =>
      intro i hi
      exact ltB_trans (ih i (by omega)) (by have := hs (i + d + 2) (by omega) (by omega); exact this)
  rw [List.pairwise_iff_getElem]
  intro i j hi hj hij e
  have := hp (j - i - 1) i (by omega)
  rw [show i + (j - i - 1) + 1 = j by omega, nth_eq hi, nth_eq hj, e, ltB_irrefl] at this
  cases this
theorem vowM_of {l : List Sound} (h : sndErr l = 0) : vowM (ofM l) = vowR l := by
  funext x
  rw [vowM, ofM, getM_of l [] (snd_distinct h), vowR, rowR]
  cases l.find? fun r => decide (r.1 = x) <;> rfl
end Go.Proofs.Ytpfoflhhbkjngaa.Ev

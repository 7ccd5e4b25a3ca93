/- The breaks of a word: both. -/
import Derived.Test.YtfihpbeihlpfcaaZFnOl
set_option linter.unusedVariables false
set_option linter.unusedSimpArgs false
namespace Go.Proofs.Ytfihpbeihlpfcaa.Ev
open Go Go.Proofs

theorem ropS_still {x : AV} (h : AV.Still x) : AV.Still (.rop [x]) := ⟨fun k => by simp only [AV.bel, bels]; exact ⟨h.bel k, trivial⟩, fun D S d => n_rop D S d _, rfl⟩
theorem placesB_at {l : List Int} {n : Int} (h : placesB l n = true) : ∀ i, i < l.length → (i : Int) + 1 ≤ nth l i ∧ nth l i < n := by
  have h1 : ∀ i, i < l.length → okAt l n i = true := fun i hi => List.all_eq_true.1 h i (List.mem_range.2 hi)
  intro i
  induction i with
  | zero =>
    intro hi
    have := h1 0 hi
    simp only [okAt, Bool.and_eq_true, decide_eq_true_eq] at this
    omega
  | succ i ih =>
    intro hi
    have h2 := ih (by omega)
    have := h1 (i + 1) hi
    simp only [okAt, Bool.and_eq_true, decide_eq_true_eq, Bool.or_eq_true, Nat.add_sub_cancel] at this
    omega
theorem placesB_len {l : List Int} {n : Nat} (h : placesB l n = true) : l.length ≤ n := by
  rcases Nat.eq_zero_or_pos l.length with e | e
  · omega
  · have := placesB_at h (l.length - 1) (by omega); omega
theorem book_at {h : Book} (hb : bookB h = true) {i : Nat} (hi : i < h.2.2.2.1.length) : placesB (nth h.2.2.2.1 i).2 (nth h.2.2.2.1 i).1.length = true := by
  simp only [bookB, Bool.and_eq_true] at hb
  have := List.all_eq_true.1 hb.1.2 i (List.mem_range.2 hi)
  simp only [brksI, Bool.and_eq_true] at this
  exact this.1
def cndB (l : List Int) (n : Nat) (lf rt : Int) (k : Nat) : Bool := decide (0 < k) && decide (k < n) && decide (Int.tmod (nth l k) 2 = 1) && decide (lf ≤ k) && decide (rt ≤ (n : Int) - k)
def oddP (l : List Int) (n : Nat) (lf rt : Int) : Nat → List Int
  | 0 => []
  | k + 1 => if cndB l n lf rt k = true then oddP l n lf rt k ++ [(k : Int)] else oddP l n lf rt k
theorem oddP_len (l : List Int) (n : Nat) (lf rt : Int) : ∀ k, (oddP l n lf rt k).length ≤ k
  | 0 => Nat.le_refl _
  | k + 1 => by
    have := oddP_len l n lf rt k
    rw [oddP]; split
    · rw [List.length_append, List.length_singleton]; omega
    · omega
theorem oddP_end (l : List Int) (n : Nat) (lf rt : Int) : oddP l n lf rt (n + 1) = oddP l n lf rt n := by
  rw [oddP, if_neg]
  simp [cndB]
/-- slices.IndexFunc[[]ablaut/api.Broken,ablaut/api.Broken]: 2 parameters, 0 captured -/
def s73 : SC := .seq (.reg [o1 4 (.mv (cI 0))])
  (.seq (.seq (.reg [o1 6 (.mv (.t 0)),
     o1 7 (.lenL (.t 6)),
     o1 8 (.mv (cI 0))])
    (.block 0 (.loop (.seq (.reg [o1 9 (.bin .lss (.t 8) (.t 7))])
       (.seq (.cond (.t 9) (.skip) (.exit 0))
        (.seq (.block 1 (.seq (.reg [o1 10 (.mv (.t 8)),
            o1 5 (.mv (.t 10))])
           (.seq (.reg [o1 11 (.mv (.t 1)),
             o1 12 (.mv (.t 0)),
             o1 13 (.mv (.t 5)),
             o1 14 (.iaddr 2 (.t 12) (.t 13)),
             o1 15 (.load (some 2) (.t 14)),
             o1 16 (.call (.t 11) [(.t 15)])])
            (.cond (.t 16) (.seq (.reg [o1 17 (.mv (.t 5)),
               o1 4 (.mv (.t 17))])
              (.ret)) (.skip)))))
         (.reg [o1 18 (.bin .add (.t 8) (cI 1)),
          o1 8 (.mv (.t 18))])))))))
   (.seq (.reg [o1 4 (.mv (cI (-1)))])
    (.ret)))
theorem s73_ok : lookF Try.prog 73 = some (s73, 19, [.tmp 4]) := by kernel_rfl
theorem brkIdx_ok (l : List Brk) (p : Brk → Bool) (g : FuncId) (caps : List AV) (hc : ∀ c ∈ caps, AV.Still c) (hp : ∀ x, x ∈ l → Fn P g (valA x :: caps) (boolA (p x))) :
    Fn P 73 [sl l, .clo g caps] (intA (match l.findIdx? p with | some i => (i : Int) | none => -1)) := by
  have h1 := caps_seen hc
  have h2 := caps_bel hc
  (refine fn_look s73_ok (by simp) (by intro k; simp only [go_sem, Nat.reduceEqDiff, ↓reduceIte, reduceCtorEq, Nat.reduceAdd, Nat.reduceMul, Int.reduceToNat, List.reduceReplicate, Nat.reduceLeDiff, Nat.reduceLT, Int.reduceLT, Int.reduceLE, Int.reduceEq]) fun S hS => cwp_sound _ _ _ _ ?_; simp (maxSteps := 900000) (disch := omega) only [s73, go_sem, Nat.reduceEqDiff, ↓reduceIte, reduceCtorEq, Nat.reduceAdd, Nat.reduceMul, Int.reduceToNat, List.reduceReplicate, Nat.reduceLeDiff, Nat.reduceLT, Int.reduceLT, Int.reduceLE, Int.reduceEq])
  repeat' (first | with_reducible refine inw ?_ | simp (maxSteps := 900000) (disch := omega) only [go_sem, Nat.reduceEqDiff, ↓reduceIte, reduceCtorEq, Nat.reduceAdd, Nat.reduceMul, Int.reduceToNat, List.reduceReplicate, Nat.reduceLeDiff, Nat.reduceLT, Int.reduceLT, Int.reduceLE, Int.reduceEq, h1, h2] | with_reducible refine pickB_f ?_ | with_reducible refine giv_intro fun _h => ?_ | with_reducible refine alt_intro ?_ fun _h => ?_ | with_reducible refine pickD_nil ?_ | (with_reducible refine brc (fun _h => ?_) fun _h => ?_) <;> first | (exfalso; omega) | simp only [decide_eq_false _h] | simp only [(_h : (_ : Bool) = _)] | simp only [decide_eq_true _h] | skip)
  (refine loopC hS [0, 1, 7] (by simp only [go_sem, Nat.reduceEqDiff, ↓reduceIte, reduceCtorEq, Nat.reduceAdd, Nat.reduceMul, Int.reduceToNat, List.reduceReplicate, Nat.reduceLeDiff, Nat.reduceLT, Int.reduceLT, Int.reduceLE, Int.reduceEq]; try rfl) (fun (i : Nat) => [(8, intA i)]) (fun (i : Nat) => []) (fun (i : Nat) => i ≤ l.length ∧ l.findIdx? p = ((l.drop i).findIdx? p).map (· + i)) (fun (i : Nat) => l.length - i) (0) ?_ (by intro s; first | (simp only [List.length_cons, List.length_nil]; done) | rfl | (rcases s with ⟨_, _⟩; rfl) | (rcases s with ⟨_, _, _⟩; rfl) | (rcases s with ⟨_, _, _, _⟩; rfl) | (rcases s with ⟨_, _, _, _, _⟩; rfl)) ?_)
  · simp (maxSteps := 900000) (disch := omega) only [go_sem, Nat.reduceEqDiff, ↓reduceIte, reduceCtorEq, Nat.reduceAdd, Nat.reduceMul, Int.reduceToNat, List.reduceReplicate, Nat.reduceLeDiff, Nat.reduceLT, Int.reduceLT, Int.reduceLE, Int.reduceEq]; simp
  rintro i ⟨hi, hI⟩
  replace hi : i ≤ l.length := hi
  replace hI : l.findIdx? p = ((l.drop i).findIdx? p).map (· + i) := hI
  repeat' (first | with_reducible refine inw ?_ | simp (maxSteps := 900000) (disch := omega) only [go_sem, Nat.reduceEqDiff, ↓reduceIte, reduceCtorEq, Nat.reduceAdd, Nat.reduceMul, Int.reduceToNat, List.reduceReplicate, Nat.reduceLeDiff, Nat.reduceLT, Int.reduceLT, Int.reduceLE, Int.reduceEq, h1, h2] | (with_reducible apply call (hp _ (nth_mem (by assumption)))); (focus simp (maxSteps := 900000) (disch := omega) only [go_sem, Nat.reduceEqDiff, ↓reduceIte, reduceCtorEq, Nat.reduceAdd, Nat.reduceMul, Int.reduceToNat, List.reduceReplicate, Nat.reduceLeDiff, Nat.reduceLT, Int.reduceLT, Int.reduceLE, Int.reduceEq, h1, h2] <;> rfl) | with_reducible refine pickB_f ?_ | with_reducible refine giv_intro fun _h => ?_ | with_reducible refine alt_intro ?_ fun _h => ?_ | with_reducible refine pickD_nil ?_ | (with_reducible refine brc (fun _h => ?_) fun _h => ?_) <;> first | (exfalso; omega) | simp only [decide_eq_false _h] | simp only [(_h : (_ : Bool) = _)] | simp only [decide_eq_true _h] | skip)
  · rw [hI, nth_drop (by assumption)]
    simp_all [List.findIdx?_cons]
  · refine ⟨i + 1, ⟨by omega, by omega, ?_⟩, by omega⟩
    rw [hI, nth_drop (by assumption), List.findIdx?_cons]
    simp_all [Function.comp_def, Nat.add_comm, Nat.add_left_comm]
  · rw [hI, List.drop_eq_nil_of_le (by omega)]; rfl
/-- ablaut/hyph.breaks$1: 1 parameters, 1 captured -/
def s74 : SC := .seq (.reg [o1 2 (.box 25 2 (.t 0)),
   o1 3 (.mv (cB false))])
  (.seq (.reg [o1 4 (.faddr 0 (.t 2)),
    o1 5 (.load none (.t 4)),
    o1 6 (.load none (.t 1)),
    o1 7 (.call (.f 54) [(.t 5), (.t 6)]),
    o1 3 (.mv (.t 7))])
   (.ret))
theorem s74_ok : lookF Try.prog 74 = some (s74, 8, [.tmp 3]) := by kernel_rfl
theorem brk1_ok (x : Brk) (w : List Str) : Fn P 74 [valA x, .rop [sl w]] (boolA (decide (x.1 = w))) := by
  have c1 := Equal_ok x.1 w
  (refine fn_look s74_ok (by simp) (by intro k; simp only [go_sem, Nat.reduceEqDiff, ↓reduceIte, reduceCtorEq, Nat.reduceAdd, Nat.reduceMul, Int.reduceToNat, List.reduceReplicate, Nat.reduceLeDiff, Nat.reduceLT, Int.reduceLT, Int.reduceLE, Int.reduceEq]) fun S hS => cwp_sound _ _ _ _ ?_; simp (maxSteps := 900000) (disch := omega) only [s74, go_sem, Nat.reduceEqDiff, ↓reduceIte, reduceCtorEq, Nat.reduceAdd, Nat.reduceMul, Int.reduceToNat, List.reduceReplicate, Nat.reduceLeDiff, Nat.reduceLT, Int.reduceLT, Int.reduceLE, Int.reduceEq])
  repeat' (first | with_reducible refine inw ?_ | simp (maxSteps := 900000) (disch := omega) only [go_sem, Nat.reduceEqDiff, ↓reduceIte, reduceCtorEq, Nat.reduceAdd, Nat.reduceMul, Int.reduceToNat, List.reduceReplicate, Nat.reduceLeDiff, Nat.reduceLT, Int.reduceLT, Int.reduceLE, Int.reduceEq] | (with_reducible apply call (c1)); (focus simp (maxSteps := 900000) (disch := omega) only [go_sem, Nat.reduceEqDiff, ↓reduceIte, reduceCtorEq, Nat.reduceAdd, Nat.reduceMul, Int.reduceToNat, List.reduceReplicate, Nat.reduceLeDiff, Nat.reduceLT, Int.reduceLT, Int.reduceLE, Int.reduceEq] <;> rfl) | with_reducible refine pickB_f ?_ | with_reducible refine giv_intro fun _h => ?_ | with_reducible refine alt_intro ?_ fun _h => ?_ | with_reducible refine pickD_nil ?_ | (with_reducible refine brc (fun _h => ?_) fun _h => ?_) <;> first | (exfalso; omega) | simp only [decide_eq_false _h] | simp only [(_h : (_ : Bool) = _)] | simp only [decide_eq_true _h] | skip)
  all_goals skip
/-- The breaks of a word by a right book. -/
def brT (h : Book) (w : List Str) : List Int := match h.2.2.2.1.findIdx? (fun x => decide (x.1 = w)) with
  | some i => (nth h.2.2.2.1 i).2
  | none => oddP (lvT h w) w.length h.1 h.2.1 w.length
/-- ablaut/hyph.breaks: 3 parameters, 0 captured -/
def s36 : SC := .seq (.reg [o1 3 (.box 37 5 (.t 0)),
   o1 5 (.box 22 1 (.t 2)),
   o1 6 (.mv (.c (.slice none 0 0)))])
  (.seq (.seq (.reg [o1 11 (.faddr 3 (.t 3)),
     o1 12 (.load none (.t 11)),
     o1 13 (.mkfunc 74 [(.t 5)]),
     o1 14 (.call (.f 73) [(.t 12), (.t 13)]),
     o1 7 (.mv (.t 14))])
    (.seq (.reg [o1 15 (.mv (.t 7)),
      o1 16 (.bin .geq (.t 15) (cI 0))])
     (.cond (.t 16) (.seq (.reg [o1 17 (.faddr 3 (.t 3)),
        o1 18 (.load none (.t 17)),
        o1 19 (.mv (.t 7)),
        o1 20 (.iaddr 2 (.t 18) (.t 19)),
        o1 21 (.faddr 1 (.t 20)),
        o1 22 (.load none (.t 21)),
        o1 23 (.call (.f 63) [(.t 22)]),
        o1 6 (.mv (.t 23))])
       (.ret)) (.skip))))
   (.seq (.reg [o1 8 (.mv (.c (.slice none 0 0)))])
    (.seq (.seq (.reg [o1 24 (.mv (.t 1)),
       o1 25 (.load none (.t 5)),
       o1 26 (.call (.f 39) [(.t 24), (.t 25)]),
       o1 27 (.lenL (.t 26)),
       o1 28 (.mv (cI 0))])
      (.block 0 (.loop (.seq (.reg [o1 29 (.bin .lss (.t 28) (.t 27))])
         (.seq (.cond (.t 29) (.skip) (.exit 0))
          (.seq (.block 1 (.seq (.reg [o1 30 (.mv (.t 28)),
              o1 31 (.iaddr 1 (.t 26) (.t 28)),
              o1 32 (.load none (.t 31)),
              o1 9 (.mv (.t 30)),
              o1 10 (.mv (.t 32))])
             (.seq (.reg [o1 33 (.mv (.t 9)),
               o1 34 (.bin .gtr (.t 33) (cI 0)),
               o1 35 (.mv (.t 34)),
               oT 36 (.mv (.t 9)) 35,
               oT 37 (.load none (.t 5)) 35,
               oT 38 (.lenL (.t 37)) 35,
               oT 39 (.bin .lss (.t 36) (.t 38)) 35,
               o1 40 (.pick (.t 35) (.t 39) (cB false)),
               o1 41 (.mv (.t 40)),
               oT 42 (.mv (.t 10)) 41,
               oT 43 (.bin .rem (.t 42) (cI 2)) 41,
               oT 44 (.bin .eql (.t 43) (cI 1)) 41,
               o1 45 (.pick (.t 41) (.t 44) (cB false)),
               o1 46 (.mv (.t 45)),
               oT 47 (.mv (.t 9)) 46,
               oT 48 (.faddr 0 (.t 3)) 46,
               oT 49 (.load none (.t 48)) 46,
               oT 50 (.bin .geq (.t 47) (.t 49)) 46,
               o1 51 (.pick (.t 46) (.t 50) (cB false)),
               o1 52 (.mv (.t 51)),
               oT 53 (.load none (.t 5)) 52,
               oT 54 (.lenL (.t 53)) 52,
               oT 55 (.mv (.t 9)) 52,
               oT 56 (.bin .sub (.t 54) (.t 55)) 52,
               oT 57 (.faddr 1 (.t 3)) 52,
               oT 58 (.load none (.t 57)) 52,
               oT 59 (.bin .geq (.t 56) (.t 58)) 52,
               o1 60 (.pick (.t 52) (.t 59) (cB false))])
              (.cond (.t 60) (.reg [o1 61 (.mv (.t 8)),
                o1 62 (.mv (.t 9)),
                o1 63 (.buildSl 3 1 1 [(.int .i64 0)] [(0, 1, (.t 62))]),
                o1 64 (.app 3 1 8 (.t 61) (.t 63)),
                o1 8 (.mv (.t 64))]) (.skip)))))
           (.reg [o1 65 (.bin .add (.t 28) (cI 1)),
            o1 28 (.mv (.t 65))])))))))
     (.seq (.reg [o1 66 (.mv (.t 8)),
       o1 6 (.mv (.t 66))])
      (.ret)))))
theorem s36_ok : lookF Try.prog 36 = some (s36, 67, [.tmp 6]) := by kernel_rfl
set_option maxHeartbeats 1000000 in
theorem hBreaks_ok (h : Book) (w : List Str) (r : AV) (hv : vErr h = 0) (hw : w.length ≤ 60) (hr : NodeA (treeF h.2.2.1) r) : Fn P 36 [bkA h, r, sl w] (sl (brT h w)) := by
  obtain ⟨_, _, _, _, b2, _, hb, _⟩ := book_facts hv
  have c2 := lvls_pats hv hw hr
  have hll : (lvT h w).length = w.length + 1 := allR_len _ _ _
  obtain ⟨cs, rfl⟩ := hr.rop
  have hcb : ∀ k, bels k cs := fun k => by have := hr.bel k; simpa only [AV.bel] using this
  have c1 := brkIdx_ok h.2.2.2.1 (fun x => decide (x.1 = w)) 74 [.rop [sl w]] (fun c hc => by rw [List.mem_singleton] at hc; rw [hc]; exact ropS_still (sl_still w)) (fun x _ => brk1_ok x w)
  unfold brT
  generalize lvT h w = l at *
  obtain ⟨lf, rt, ps, xs, ts⟩ := h
  dsimp only at *
  cases hf : xs.findIdx? (fun x => decide (x.1 = w)) with
  | some i =>
    rw [hf] at c1
    dsimp only at c1 ⊢
    have hi : i < xs.length := (List.findIdx?_eq_some_iff_findIdx_eq.1 hf).1
    have hxw : (nth xs i).1 = w := by
      have := (List.findIdx?_eq_some_iff_getElem.1 hf).2.1
      rw [← nth_eq hi] at this
      simpa using this
    have hat : (nth xs i).2.length ≤ 8796093022208 := by
      have := placesB_len (book_at hb hi)
      dsimp only at this
      rw [hxw] at this; omega
    have c3 := cloneI_ok (nth xs i).2 hat
    have eE : (cellsL xs)[i * 2 + 1]? = some (sl (nth xs i).2) := cells2_1 hi
    (refine fn_look s36_ok (by simp) (by intro k; simp only [go_sem, Nat.reduceEqDiff, ↓reduceIte, reduceCtorEq, Nat.reduceAdd, Nat.reduceMul, Int.reduceToNat, List.reduceReplicate, Nat.reduceLeDiff, Nat.reduceLT, Int.reduceLT, Int.reduceLE, Int.reduceEq]) fun S hS => cwp_sound _ _ _ _ ?_; simp (maxSteps := 900000) (disch := omega) only [s36, go_sem, Nat.reduceEqDiff, ↓reduceIte, reduceCtorEq, Nat.reduceAdd, Nat.reduceMul, Int.reduceToNat, List.reduceReplicate, Nat.reduceLeDiff, Nat.reduceLT, Int.reduceLT, Int.reduceLE, Int.reduceEq])
    repeat' (first | with_reducible refine inw ?_ | simp (maxSteps := 900000) (disch := omega) only [go_sem, Nat.reduceEqDiff, ↓reduceIte, reduceCtorEq, Nat.reduceAdd, Nat.reduceMul, Int.reduceToNat, List.reduceReplicate, Nat.reduceLeDiff, Nat.reduceLT, Int.reduceLT, Int.reduceLE, Int.reduceEq, eE] | (with_reducible apply call_lend (c1)); (focus simp (maxSteps := 900000) (disch := omega) only [go_sem, Nat.reduceEqDiff, ↓reduceIte, reduceCtorEq, Nat.reduceAdd, Nat.reduceMul, Int.reduceToNat, List.reduceReplicate, Nat.reduceLeDiff, Nat.reduceLT, Int.reduceLT, Int.reduceLE, Int.reduceEq, eE] <;> rfl); (focus rfl) | (with_reducible apply call (c3)); (focus simp (maxSteps := 900000) (disch := omega) only [go_sem, Nat.reduceEqDiff, ↓reduceIte, reduceCtorEq, Nat.reduceAdd, Nat.reduceMul, Int.reduceToNat, List.reduceReplicate, Nat.reduceLeDiff, Nat.reduceLT, Int.reduceLT, Int.reduceLE, Int.reduceEq, eE] <;> rfl) | with_reducible refine pickB_f ?_ | with_reducible refine giv_intro fun _h => ?_ | with_reducible refine alt_intro ?_ fun _h => ?_ | with_reducible refine pickD_nil ?_ | (with_reducible refine brc (fun _h => ?_) fun _h => ?_) <;> first | (exfalso; omega) | simp only [decide_eq_false _h] | simp only [(_h : (_ : Bool) = _)] | simp only [decide_eq_true _h] | skip)
    all_goals skip
  | none =>
    rw [hf] at c1
    dsimp only at c1 ⊢
    (refine fn_look s36_ok (by simp) (by intro k; simp only [go_sem, Nat.reduceEqDiff, ↓reduceIte, reduceCtorEq, Nat.reduceAdd, Nat.reduceMul, Int.reduceToNat, List.reduceReplicate, Nat.reduceLeDiff, Nat.reduceLT, Int.reduceLT, Int.reduceLE, Int.reduceEq]) fun S hS => cwp_sound _ _ _ _ ?_; simp (maxSteps := 900000) (disch := omega) only [s36, go_sem, Nat.reduceEqDiff, ↓reduceIte, reduceCtorEq, Nat.reduceAdd, Nat.reduceMul, Int.reduceToNat, List.reduceReplicate, Nat.reduceLeDiff, Nat.reduceLT, Int.reduceLT, Int.reduceLE, Int.reduceEq])
    repeat' (first | with_reducible refine inw ?_ | simp (maxSteps := 900000) (disch := omega) only [go_sem, Nat.reduceEqDiff, ↓reduceIte, reduceCtorEq, Nat.reduceAdd, Nat.reduceMul, Int.reduceToNat, List.reduceReplicate, Nat.reduceLeDiff, Nat.reduceLT, Int.reduceLT, Int.reduceLE, Int.reduceEq] | (with_reducible apply call_lend (c1)); (focus simp (maxSteps := 900000) (disch := omega) only [go_sem, Nat.reduceEqDiff, ↓reduceIte, reduceCtorEq, Nat.reduceAdd, Nat.reduceMul, Int.reduceToNat, List.reduceReplicate, Nat.reduceLeDiff, Nat.reduceLT, Int.reduceLT, Int.reduceLE, Int.reduceEq] <;> rfl); (focus rfl) | (with_reducible apply call (c2)); (focus simp (maxSteps := 900000) (disch := omega) only [go_sem, Nat.reduceEqDiff, ↓reduceIte, reduceCtorEq, Nat.reduceAdd, Nat.reduceMul, Int.reduceToNat, List.reduceReplicate, Nat.reduceLeDiff, Nat.reduceLT, Int.reduceLT, Int.reduceLE, Int.reduceEq] <;> rfl) | with_reducible refine pickB_f ?_ | with_reducible refine giv_intro fun _h => ?_ | with_reducible refine alt_intro ?_ fun _h => ?_ | with_reducible refine pickD_nil ?_ | (with_reducible refine brc (fun _h => ?_) fun _h => ?_) <;> first | (exfalso; omega) | simp only [decide_eq_false _h] | simp only [(_h : (_ : Bool) = _)] | simp only [decide_eq_true _h] | skip)
    refine nil_row 8 3 1 (by simp (maxSteps := 900000) (disch := omega) only [go_sem, Nat.reduceEqDiff, ↓reduceIte, reduceCtorEq, Nat.reduceAdd, Nat.reduceMul, Int.reduceToNat, List.reduceReplicate, Nat.reduceLeDiff, Nat.reduceLT, Int.reduceLT, Int.reduceLE, Int.reduceEq]) ?_
    simp only [List.cons_append, List.nil_append, List.length_cons, List.length_nil, Nat.zero_add, Nat.reduceAdd]
    (refine loopC hS [3, 5, 26, 27] (by simp only [go_sem, Nat.reduceEqDiff, ↓reduceIte, reduceCtorEq, Nat.reduceAdd, Nat.reduceMul, Int.reduceToNat, List.reduceReplicate, Nat.reduceLeDiff, Nat.reduceLT, Int.reduceLT, Int.reduceLE, Int.reduceEq]; try rfl) (fun (k : Nat) => [(8, own S 2 (oddP l w.length lf rt k)), (28, intA k)]) (fun (k : Nat) => [some (.row 37 5 [intA lf, intA rt, sl ps, sl xs, sl ts]), some (.row 22 1 [sl w]), rowO 3 (oddP l w.length lf rt k)]) (fun (k : Nat) => k ≤ l.length) (fun (k : Nat) => l.length - k) (0) ?_ (by intro s; first | (simp only [List.length_cons, List.length_nil]; done) | rfl | (rcases s with ⟨_, _⟩; rfl) | (rcases s with ⟨_, _, _⟩; rfl) | (rcases s with ⟨_, _, _, _⟩; rfl) | (rcases s with ⟨_, _, _, _, _⟩; rfl)) ?_)
    · simp (maxSteps := 900000) (disch := omega) only [go_sem, Nat.reduceEqDiff, ↓reduceIte, reduceCtorEq, Nat.reduceAdd, Nat.reduceMul, Int.reduceToNat, List.reduceReplicate, Nat.reduceLeDiff, Nat.reduceLT, Int.reduceLT, Int.reduceLE, Int.reduceEq]
      exact ⟨Nat.zero_le _, ⟨rfl, rfl⟩, rfl⟩
    rintro k hk
    replace hk : k ≤ l.length := hk
    have hol := oddP_len l w.length lf rt k
    by_cases hkl : k < l.length
    · have hst : oddP l w.length lf rt (k + 1) = if cndB l w.length lf rt k = true then oddP l w.length lf rt k ++ [(k : Int)] else oddP l w.length lf rt k := rfl
      have hcn : cndB l w.length lf rt k = (decide (0 < k) && decide (k < w.length) && decide (Int.tmod (nth l k) 2 = 1) && decide (lf ≤ k) && decide (rt ≤ (w.length : Int) - k)) := rfl
      generalize hO2 : oddP l w.length lf rt (k + 1) = O2 at *
      generalize oddP l w.length lf rt k = O at *
      repeat' (first | with_reducible refine inw ?_ | simp (maxSteps := 900000) (disch := omega) only [go_sem, Nat.reduceEqDiff, ↓reduceIte, reduceCtorEq, Nat.reduceAdd, Nat.reduceMul, Int.reduceToNat, List.reduceReplicate, Nat.reduceLeDiff, Nat.reduceLT, Int.reduceLT, Int.reduceLE, Int.reduceEq] | with_reducible refine pickB_f ?_ | with_reducible refine giv_intro fun _h => ?_ | with_reducible refine alt_intro ?_ fun _h => ?_ | with_reducible refine pickD_nil ?_ | (with_reducible refine brc (fun _h => ?_) fun _h => ?_) <;> first | (exfalso; omega) | simp only [decide_eq_false _h] | simp only [(_h : (_ : Bool) = _)] | simp only [decide_eq_true _h] | skip)
      all_goals first
        | (rw [if_pos (by rw [hcn]; simp; omega)] at hst
           have hl2 : O2.length = O.length + 1 := by rw [hst, List.length_append, List.length_singleton]
           exact ⟨k + 1, ⟨by omega, by omega⟩, ⟨by rw [hO2, hl2]; exact ⟨rfl, rfl⟩, by omega⟩, by rw [hO2, hst]⟩)
        | (rw [if_neg (by rw [hcn]; simp; omega)] at hst
           exact ⟨k + 1, ⟨by omega, by omega⟩, ⟨by rw [hO2, hst]; exact ⟨rfl, rfl⟩, by omega⟩, by rw [hO2, hst]⟩)
    · have hke : k = w.length + 1 := by omega
      subst hke
      rw [oddP_end]
      repeat' (first | with_reducible refine inw ?_ | simp (maxSteps := 900000) (disch := omega) only [go_sem, Nat.reduceEqDiff, ↓reduceIte, reduceCtorEq, Nat.reduceAdd, Nat.reduceMul, Int.reduceToNat, List.reduceReplicate, Nat.reduceLeDiff, Nat.reduceLT, Int.reduceLT, Int.reduceLE, Int.reduceEq] | with_reducible refine pickB_f ?_ | with_reducible refine giv_intro fun _h => ?_ | with_reducible refine alt_intro ?_ fun _h => ?_ | with_reducible refine pickD_nil ?_ | (with_reducible refine brc (fun _h => ?_) fun _h => ?_) <;> first | (exfalso; omega) | simp only [decide_eq_false _h] | simp only [(_h : (_ : Bool) = _)] | simp only [decide_eq_true _h] | skip)
      all_goals skip
def bksR (h : Book) (w : List Str) : List Int × Int := if askE h w ≠ 0 then ([], askE h w) else (brT h w, 0)
/-- ablaut/hyph.Breaks: 2 parameters, 0 captured -/
def s12 : SC := .seq (.reg [o1 2 (.box 37 5 (.t 0)),
   o1 4 (.mv (.c (.slice none 0 0))),
   o1 5 (.mv (cI 0))])
  (.seq (.seq (.reg [o1 7 (.load (some 5) (.t 2)),
     o1 8 (.mv (.t 1)),
     o1 9 (.call (.f 35) [(.t 7), (.t 8)]),
     o1 6 (.mv (.t 9))])
    (.seq (.reg [o1 10 (.mv (.t 6)),
      o1 11 (.bin .neq (.t 10) (cI 0))])
     (.cond (.t 11) (.seq (.reg [o1 12 (.mv (.t 6)),
        o1 4 (.mv (.c (.slice none 0 0))),
        o1 5 (.mv (.t 12))])
       (.ret)) (.skip))))
   (.seq (.regL [(false, true, o1 13 (.load (some 5) (.t 2))),
     (false, true, o1 14 (.faddr 2 (.t 2))),
     (false, true, o1 15 (.load none (.t 14))),
     (false, true, o1 17 (.mv (.t 1))),
     (true, true, o1 16 (.call (.f 37) [(.t 15)])),
     (false, false, o1 18 (.call (.f 36) [(.t 13), (.t 16), (.t 17)])),
     (false, false, o1 4 (.mv (.t 18))),
     (false, false, o1 5 (.mv (cI 0)))])
    (.ret)))
theorem s12_ok : lookF Try.prog 12 = some (s12, 19, [.tmp 4, .tmp 5]) := by kernel_rfl
theorem hBreaksF_ok (h : Book) (w : List Str) : Fn P 12 [bkA h, sl w] (liA (bksR h w)) := by
  have c1 := both_ok h w
  by_cases he : askE h w ≠ 0
  · rw [bksR, if_pos he]
    (refine fn_look s12_ok (by simp) (by intro k; simp only [go_sem, Nat.reduceEqDiff, ↓reduceIte, reduceCtorEq, Nat.reduceAdd, Nat.reduceMul, Int.reduceToNat, List.reduceReplicate, Nat.reduceLeDiff, Nat.reduceLT, Int.reduceLT, Int.reduceLE, Int.reduceEq]) fun S hS => cwp_sound _ _ _ _ ?_; simp (maxSteps := 900000) (disch := omega) only [s12, go_sem, Nat.reduceEqDiff, ↓reduceIte, reduceCtorEq, Nat.reduceAdd, Nat.reduceMul, Int.reduceToNat, List.reduceReplicate, Nat.reduceLeDiff, Nat.reduceLT, Int.reduceLT, Int.reduceLE, Int.reduceEq])
    repeat' (first | with_reducible refine inw ?_ | simp (maxSteps := 900000) (disch := omega) only [go_sem, Nat.reduceEqDiff, ↓reduceIte, reduceCtorEq, Nat.reduceAdd, Nat.reduceMul, Int.reduceToNat, List.reduceReplicate, Nat.reduceLeDiff, Nat.reduceLT, Int.reduceLT, Int.reduceLE, Int.reduceEq] | (with_reducible apply call (c1)); (focus simp (maxSteps := 900000) (disch := omega) only [go_sem, Nat.reduceEqDiff, ↓reduceIte, reduceCtorEq, Nat.reduceAdd, Nat.reduceMul, Int.reduceToNat, List.reduceReplicate, Nat.reduceLeDiff, Nat.reduceLT, Int.reduceLT, Int.reduceLE, Int.reduceEq] <;> rfl) | with_reducible refine pickB_f ?_ | with_reducible refine giv_intro fun _h => ?_ | with_reducible refine alt_intro ?_ fun _h => ?_ | with_reducible refine pickD_nil ?_ | (with_reducible refine brc (fun _h => ?_) fun _h => ?_) <;> first | (exfalso; omega) | simp only [decide_eq_false _h] | simp only [(_h : (_ : Bool) = _)] | simp only [decide_eq_true _h] | skip)
    all_goals rfl
  have he0 : askE h w = 0 := by omega
  obtain ⟨hv, hw⟩ := askE_zero he0
  have c2 := tree_pats hv
  rw [bksR, if_neg he]
  rw [he0] at c1
  (refine fn_look s12_ok (by simp) (by intro k; simp only [go_sem, Nat.reduceEqDiff, ↓reduceIte, reduceCtorEq, Nat.reduceAdd, Nat.reduceMul, Int.reduceToNat, List.reduceReplicate, Nat.reduceLeDiff, Nat.reduceLT, Int.reduceLT, Int.reduceLE, Int.reduceEq]) fun S hS => cwp_sound _ _ _ _ ?_; simp (maxSteps := 900000) (disch := omega) only [s12, go_sem, Nat.reduceEqDiff, ↓reduceIte, reduceCtorEq, Nat.reduceAdd, Nat.reduceMul, Int.reduceToNat, List.reduceReplicate, Nat.reduceLeDiff, Nat.reduceLT, Int.reduceLT, Int.reduceLE, Int.reduceEq])
  repeat' (first | with_reducible refine inw ?_ | simp (maxSteps := 900000) (disch := omega) only [go_sem, Nat.reduceEqDiff, ↓reduceIte, reduceCtorEq, Nat.reduceAdd, Nat.reduceMul, Int.reduceToNat, List.reduceReplicate, Nat.reduceLeDiff, Nat.reduceLT, Int.reduceLT, Int.reduceLE, Int.reduceEq] | (with_reducible apply call (c1)); (focus simp (maxSteps := 900000) (disch := omega) only [go_sem, Nat.reduceEqDiff, ↓reduceIte, reduceCtorEq, Nat.reduceAdd, Nat.reduceMul, Int.reduceToNat, List.reduceReplicate, Nat.reduceLeDiff, Nat.reduceLT, Int.reduceLT, Int.reduceLE, Int.reduceEq] <;> rfl) | (with_reducible apply callR (c2)); (focus simp (maxSteps := 900000) (disch := omega) only [go_sem, Nat.reduceEqDiff, ↓reduceIte, reduceCtorEq, Nat.reduceAdd, Nat.reduceMul, Int.reduceToNat, List.reduceReplicate, Nat.reduceLeDiff, Nat.reduceLT, Int.reduceLT, Int.reduceLE, Int.reduceEq] <;> rfl) | with_reducible refine pickB_f ?_ | with_reducible refine giv_intro fun _h => ?_ | with_reducible refine alt_intro ?_ fun _h => ?_ | with_reducible refine pickD_nil ?_ | (with_reducible refine brc (fun _h => ?_) fun _h => ?_) <;> first | (exfalso; omega) | simp only [decide_eq_false _h] | simp only [(_h : (_ : Bool) = _)] | simp only [decide_eq_true _h] | skip)
  rintro r hr
  have c3 := hBreaks_ok h w r hv (wordErr_len hw) hr
  obtain ⟨cs, rfl⟩ := hr.rop
  repeat' (first | with_reducible refine inw ?_ | simp (maxSteps := 900000) (disch := omega) only [go_sem, Nat.reduceEqDiff, ↓reduceIte, reduceCtorEq, Nat.reduceAdd, Nat.reduceMul, Int.reduceToNat, List.reduceReplicate, Nat.reduceLeDiff, Nat.reduceLT, Int.reduceLT, Int.reduceLE, Int.reduceEq] | (with_reducible apply call_D (c3)); (focus simp (maxSteps := 900000) (disch := omega) only [go_sem, Nat.reduceEqDiff, ↓reduceIte, reduceCtorEq, Nat.reduceAdd, Nat.reduceMul, Int.reduceToNat, List.reduceReplicate, Nat.reduceLeDiff, Nat.reduceLT, Int.reduceLT, Int.reduceLE, Int.reduceEq] <;> rfl) | with_reducible refine pickB_f ?_ | with_reducible refine giv_intro fun _h => ?_ | with_reducible refine alt_intro ?_ fun _h => ?_ | with_reducible refine pickD_nil ?_ | (with_reducible refine brc (fun _h => ?_) fun _h => ?_) <;> first | (exfalso; omega) | simp only [decide_eq_false _h] | simp only [(_h : (_ : Bool) = _)] | simp only [decide_eq_true _h] | skip)
  all_goals skip
end Go.Proofs.Ytfihpbeihlpfcaa.Ev

/- Frames copied. -/
import Derived.Test.YtkedbkdbnmmkhaaZFnKc
set_option linter.unusedVariables false
set_option linter.unusedSimpArgs false
namespace Go.Proofs.Ytkedbkdbnmmkhaa.Ev
open Go Go.Proofs

/-- slices.Clone[[]string,string]: 1 parameters, 0 captured -/
def s70 : SC := .seq (.reg [o1 2 (.mv (.c (.slice none 0 0)))])
  (.seq (.seq (.reg [o1 3 (.mv (.t 0)),
     o1 4 (.eq false .slice (.t 3) (.c (.slice none 0 0)))])
    (.cond (.t 4) (.seq (.reg [o1 2 (.mv (.c (.slice none 0 0)))])
      (.ret)) (.skip)))
   (.seq (.reg [o1 5 (.buildSl 9 1 0 [(.string ⟨#[]⟩)] []),
     o1 6 (.mv (.t 0)),
     o1 7 (.app 9 1 16 (.t 5) (.t 6)),
     o1 2 (.mv (.t 7))])
    (.ret)))
theorem s70_ok : lookF Try.prog 70 = some (s70, 8, [.tmp 2]) := by kernel_rfl
theorem cloneS_ok (l : List Str) (hl : l.length ≤ 8796093022208) : Fn P 70 [sl l] (sl l) := by
  (refine fn_look s70_ok (by simp) (by intro k; simp only [go_sem, Nat.reduceEqDiff, ↓reduceIte, reduceCtorEq, Nat.reduceAdd, Nat.reduceMul, Int.reduceToNat, List.reduceReplicate, Nat.reduceLeDiff, Nat.reduceLT, Int.reduceLT, Int.reduceLE, Int.reduceEq]) fun S hS => cwp_sound _ _ _ _ ?_; simp (disch := omega) only [s70, go_sem, Nat.reduceEqDiff, ↓reduceIte, reduceCtorEq, Nat.reduceAdd, Nat.reduceMul, Int.reduceToNat, List.reduceReplicate, Nat.reduceLeDiff, Nat.reduceLT, Int.reduceLT, Int.reduceLE, Int.reduceEq])
  repeat' (first | with_reducible refine inw ?_ | simp (disch := omega) only [go_sem, Nat.reduceEqDiff, ↓reduceIte, reduceCtorEq, Nat.reduceAdd, Nat.reduceMul, Int.reduceToNat, List.reduceReplicate, Nat.reduceLeDiff, Nat.reduceLT, Int.reduceLT, Int.reduceLE, Int.reduceEq] | with_reducible refine giv_intro fun _h => ?_ | with_reducible refine alt_intro ?_ fun _h => ?_ | with_reducible refine pickD_nil ?_ | (with_reducible refine brc (fun _h => ?_) fun _h => ?_) <;> first | (exfalso; omega) | simp only [decide_eq_false _h] | simp only [(_h : (_ : Bool) = _)] | simp only [decide_eq_true _h] | skip)
  rw [List.eq_nil_of_length_eq_zero _h]; rfl
theorem zc_zero (zs : List Value) : zcells zs 0 = [] := by simp [zcells]
/-- slices.Clone[[]ablaut/api.Hung,ablaut/api.Hung]: 1 parameters, 0 captured -/
def s69 : SC := .seq (.reg [o1 2 (.mv (.c (.slice none 0 0)))])
  (.seq (.seq (.reg [o1 3 (.mv (.t 0)),
     o1 4 (.eq false .slice (.t 3) (.c (.slice none 0 0)))])
    (.cond (.t 4) (.seq (.reg [o1 2 (.mv (.c (.slice none 0 0)))])
      (.ret)) (.skip)))
   (.seq (.reg [o1 5 (.buildSl 34 3 0 [(.slice none 0 0), (.int .i64 0), (.string ⟨#[]⟩)] []),
     o1 6 (.mv (.t 0)),
     o1 7 (.app 34 3 48 (.t 5) (.t 6)),
     o1 2 (.mv (.t 7))])
    (.ret)))
theorem s69_ok : lookF Try.prog 69 = some (s69, 8, [.tmp 2]) := by kernel_rfl
theorem cloneH_nil : Fn P 69 [sl ([] : List Hung)] (sl ([] : List Hung)) := by
  (refine fn_look s69_ok (by simp) (by intro k; simp only [go_sem, Nat.reduceEqDiff, ↓reduceIte, reduceCtorEq, Nat.reduceAdd, Nat.reduceMul, Int.reduceToNat, List.reduceReplicate, Nat.reduceLeDiff, Nat.reduceLT, Int.reduceLT, Int.reduceLE, Int.reduceEq]) fun S hS => cwp_sound _ _ _ _ ?_; simp (disch := omega) only [s69, go_sem, Nat.reduceEqDiff, ↓reduceIte, reduceCtorEq, Nat.reduceAdd, Nat.reduceMul, Int.reduceToNat, List.reduceReplicate, Nat.reduceLeDiff, Nat.reduceLT, Int.reduceLT, Int.reduceLE, Int.reduceEq])
  repeat' (first | with_reducible refine inw ?_ | simp (disch := omega) only [go_sem, Nat.reduceEqDiff, ↓reduceIte, reduceCtorEq, Nat.reduceAdd, Nat.reduceMul, Int.reduceToNat, List.reduceReplicate, Nat.reduceLeDiff, Nat.reduceLT, Int.reduceLT, Int.reduceLE, Int.reduceEq, zc_zero] | with_reducible refine giv_intro fun _h => ?_ | with_reducible refine alt_intro ?_ fun _h => ?_ | with_reducible refine pickD_nil ?_ | (with_reducible refine brc (fun _h => ?_) fun _h => ?_) <;> first | (exfalso; omega) | simp only [decide_eq_false _h] | simp only [(_h : (_ : Bool) = _)] | simp only [decide_eq_true _h] | skip)
  all_goals rfl
theorem cloneH_ok (l : List Hung) (h0 : 0 < l.length) (hl : l.length ≤ 8796093022) : FnS P 69 [sl l] (fun S L r => L = [rowO 34 l] ∧ r = own S 0 l) := by
  (refine fnS_look s69_ok (by simp) fun S hS => cwp_sound _ _ _ _ ?_; simp (disch := omega) only [s69, go_sem, Nat.reduceEqDiff, ↓reduceIte, reduceCtorEq, Nat.reduceAdd, Nat.reduceMul, Int.reduceToNat, List.reduceReplicate, Nat.reduceLeDiff, Nat.reduceLT, Int.reduceLT, Int.reduceLE, Int.reduceEq])
  repeat' (first | with_reducible refine inw ?_ | simp (disch := omega) only [go_sem, Nat.reduceEqDiff, ↓reduceIte, reduceCtorEq, Nat.reduceAdd, Nat.reduceMul, Int.reduceToNat, List.reduceReplicate, Nat.reduceLeDiff, Nat.reduceLT, Int.reduceLT, Int.reduceLE, Int.reduceEq, zc_zero] | with_reducible refine giv_intro fun _h => ?_ | with_reducible refine alt_intro ?_ fun _h => ?_ | with_reducible refine pickD_nil ?_ | (with_reducible refine brc (fun _h => ?_) fun _h => ?_) <;> first | (exfalso; omega) | simp only [decide_eq_false _h] | simp only [(_h : (_ : Bool) = _)] | simp only [decide_eq_true _h] | skip)
  exfalso; omega
theorem putAt_self {α : Type} {k : Nat} [Enc α k] {l : List α} {i : Nat} (h : i < l.length) : putAt l i (nth l i) = l := by
  rw [putAt, ← nth_drop h, List.take_append_drop]
/-! ### fields of a row of nodes -/
theorem cells_at {α : Type} {k : Nat} [Enc α k] {l : List α} {i j : Nat} (h : i < l.length) (hj : j < k) : (cellsL l)[i * k + j]? = (Enc.cells (nth l i))[j]? := by
  rw [← List.getElem?_drop, cellsL_drop, drop_cells h, List.getElem?_append_left (by rw [Enc.len]; exact hj)]
theorem hcells (h : Hung) : Enc.cells h = [sl h.1, intA h.2.1, strA h.2.2] := rfl
theorem get_h0 {l : List Hung} {i : Nat} (h : i < l.length) : (cellsL l)[i * 3]? = some (sl (nth l i).1) := by
  show (cellsL l)[i * 3 + 0]? = _
  rw [cells_at h (by omega)]; rfl
theorem get_h1 {l : List Hung} {i : Nat} (h : i < l.length) : (cellsL l)[i * 3 + 1]? = some (intA (nth l i).2.1) := by rw [cells_at h (by omega)]; rfl
theorem get_h2 {l : List Hung} {i : Nat} (h : i < l.length) : (cellsL l)[i * 3 + 2]? = some (strA (nth l i).2.2) := by rw [cells_at h (by omega)]; rfl
theorem get_hh {l : List Hung} {i : Nat} (h : i < l.length) : ((cellsL l).drop (i * 3)).take 3 = [sl (nth l i).1, intA (nth l i).2.1, strA (nth l i).2.2] := by rw [cellsL_drop, take_cells h]; rfl
theorem split_h {l : List Hung} {i : Nat} (h : i < l.length) : (cellsL l) = (cellsL l).take (i * 3) ++ [sl (nth l i).1, intA (nth l i).2.1, strA (nth l i).2.2] ++ (cellsL l).drop (i * 3 + 3) := by
  have := cells_putAt l i (nth l i)
  rw [putAt_self h] at this
  exact this.symm
theorem len_take3 {l : List Hung} {i : Nat} (h : i < l.length) : ((cellsL l).take (i * 3)).length = i * 3 := by rw [List.length_take, cellsL_len]; omega
theorem take_mid (A B : List AV) {m : Nat} (n : Nat) (h : A.length = m) : (A ++ B).take (m + n) = A ++ B.take n := by
  rw [List.take_append]
  congr 1
  · exact List.take_of_length_le (by omega)
  · congr 1; omega
theorem drop_mid (A B : List AV) {m : Nat} (n : Nat) (h : A.length = m) : (A ++ B).drop (m + n) = B.drop n := by
  rw [List.drop_append, List.drop_eq_nil_of_le (by omega), List.nil_append]
  congr 1; omega
theorem put_h0 {l : List Hung} {i : Nat} (h : i < l.length) (t : List Str) : (cellsL l).take (i * 3) ++ [AV.ro t.length (cellsL t)] ++ (cellsL l).drop (i * 3 + 1) = cellsL (putAt l i (t, (nth l i).2.1, (nth l i).2.2)) := by
  rw [← cells_putAt l i, hcells]
  have e : (cellsL l).drop (i * 3 + 1) = [intA (nth l i).2.1, strA (nth l i).2.2] ++ (cellsL l).drop (i * 3 + 3) := by
    conv => lhs; rw [split_h h]
    rw [List.append_assoc, drop_mid _ _ 1 (len_take3 h)]; rfl
  rw [e]; simp
theorem put_h1 {l : List Hung} {i : Nat} (h : i < l.length) (k : Int) : (cellsL l).take (i * 3 + 1) ++ [intA k] ++ (cellsL l).drop (i * 3 + 1 + 1) = cellsL (putAt l i ((nth l i).1, k, (nth l i).2.2)) := by
  rw [← cells_putAt l i, hcells]
  have e1 : (cellsL l).take (i * 3 + 1) = (cellsL l).take (i * 3) ++ [sl (nth l i).1] := by
    conv => lhs; rw [split_h h]
    rw [List.append_assoc, take_mid _ _ 1 (len_take3 h)]; rfl
  have e : (cellsL l).drop (i * 3 + 1 + 1) = [strA (nth l i).2.2] ++ (cellsL l).drop (i * 3 + 3) := by
    conv => lhs; rw [split_h h]
    rw [List.append_assoc, Nat.add_assoc, drop_mid _ _ 2 (len_take3 h)]; rfl
  rw [e, e1]; simp
theorem put_h2 {l : List Hung} {i : Nat} (h : i < l.length) (s : Str) : (cellsL l).take (i * 3 + 2) ++ [strA s] ++ (cellsL l).drop (i * 3 + 2 + 1) = cellsL (putAt l i ((nth l i).1, (nth l i).2.1, s)) := by
  rw [← cells_putAt l i, hcells]
  have e1 : (cellsL l).take (i * 3 + 2) = (cellsL l).take (i * 3) ++ [sl (nth l i).1, intA (nth l i).2.1] := by
    conv => lhs; rw [split_h h]
    rw [List.append_assoc, take_mid _ _ 2 (len_take3 h)]; rfl
  rw [e1]; simp
/-- ablaut/depend.fresh: 1 parameters, 0 captured -/
def s38 : SC := .seq (.reg [o1 2 (.mv (.c (.slice none 0 0)))])
  (.seq (.reg [o1 5 (.mv (.t 0)),
    o1 6 (.call (.f 69) [(.t 5)]),
    o1 3 (.mv (.t 6))])
   (.seq (.seq (.reg [o1 7 (.mv (.t 3)),
      o1 8 (.lenL (.t 7)),
      o1 9 (.mv (cI 0))])
     (.block 0 (.loop (.seq (.reg [o1 10 (.bin .lss (.t 9) (.t 8))])
        (.seq (.cond (.t 10) (.skip) (.exit 0))
         (.seq (.block 1 (.seq (.reg [o1 11 (.mv (.t 9)),
             o1 4 (.mv (.t 11))])
            (.reg [o1 12 (.mv (.t 3)),
             o1 13 (.mv (.t 4)),
             o1 14 (.mv (.t 3)),
             o1 15 (.mv (.t 4)),
             o1 16 (.iaddr 3 (.t 14) (.t 15)),
             o1 17 (.faddr 0 (.t 16)),
             o1 18 (.load none (.t 17)),
             o1 19 (.call (.f 70) [(.t 18)]),
             o1 20 (.iaddr 3 (.t 12) (.t 13)),
             o1 21 (.faddr 0 (.t 20)),
             o0 (.store 1 (.t 21) (.t 19))])))
          (.reg [o1 22 (.bin .add (.t 9) (cI 1)),
           o1 9 (.mv (.t 22))])))))))
    (.seq (.reg [o1 23 (.mv (.t 3)),
      o1 2 (.mv (.t 23))])
     (.ret))))
theorem s38_ok : lookF Try.prog 38 = some (s38, 24, [.tmp 2]) := by kernel_rfl
theorem fresh_nil : Fn P 38 [sl ([] : List Hung)] (sl ([] : List Hung)) := by
  (refine fn_look s38_ok (by simp) (by intro k; simp only [go_sem, Nat.reduceEqDiff, ↓reduceIte, reduceCtorEq, Nat.reduceAdd, Nat.reduceMul, Int.reduceToNat, List.reduceReplicate, Nat.reduceLeDiff, Nat.reduceLT, Int.reduceLT, Int.reduceLE, Int.reduceEq]) fun S hS => cwp_sound _ _ _ _ ?_; simp (disch := omega) only [s38, go_sem, Nat.reduceEqDiff, ↓reduceIte, reduceCtorEq, Nat.reduceAdd, Nat.reduceMul, Int.reduceToNat, List.reduceReplicate, Nat.reduceLeDiff, Nat.reduceLT, Int.reduceLT, Int.reduceLE, Int.reduceEq])
  repeat' (first | with_reducible refine inw ?_ | simp (disch := omega) only [go_sem, Nat.reduceEqDiff, ↓reduceIte, reduceCtorEq, Nat.reduceAdd, Nat.reduceMul, Int.reduceToNat, List.reduceReplicate, Nat.reduceLeDiff, Nat.reduceLT, Int.reduceLT, Int.reduceLE, Int.reduceEq] | (with_reducible apply call (cloneH_nil)); (focus simp (disch := omega) only [go_sem, Nat.reduceEqDiff, ↓reduceIte, reduceCtorEq, Nat.reduceAdd, Nat.reduceMul, Int.reduceToNat, List.reduceReplicate, Nat.reduceLeDiff, Nat.reduceLT, Int.reduceLT, Int.reduceLE, Int.reduceEq] <;> rfl) | with_reducible refine giv_intro fun _h => ?_ | with_reducible refine alt_intro ?_ fun _h => ?_ | with_reducible refine pickD_nil ?_ | (with_reducible refine brc (fun _h => ?_) fun _h => ?_) <;> first | (exfalso; omega) | simp only [decide_eq_false _h] | simp only [(_h : (_ : Bool) = _)] | simp only [decide_eq_true _h] | skip)
  (refine loopC hS [3, 8] (by simp only [go_sem, Nat.reduceEqDiff, ↓reduceIte, reduceCtorEq, Nat.reduceAdd, Nat.reduceMul, Int.reduceToNat, List.reduceReplicate, Nat.reduceLeDiff, Nat.reduceLT, Int.reduceLT, Int.reduceLE, Int.reduceEq]; try rfl) (fun (i : Nat) => [(9, intA 0)]) (fun (i : Nat) => []) (fun (i : Nat) => True) (fun (i : Nat) => 0) (0) ?h01 ?hn1 ?rd1; case hn1 => (intro s; first | rfl | (rcases s with ⟨_, _⟩; rfl) | (rcases s with ⟨_, _, _⟩; rfl) | (rcases s with ⟨_, _, _, _⟩; rfl) | (rcases s with ⟨_, _, _, _, _⟩; rfl)))
  · simp (disch := omega) only [go_sem, Nat.reduceEqDiff, ↓reduceIte, reduceCtorEq, Nat.reduceAdd, Nat.reduceMul, Int.reduceToNat, List.reduceReplicate, Nat.reduceLeDiff, Nat.reduceLT, Int.reduceLT, Int.reduceLE, Int.reduceEq]
  rintro i _
  repeat' (first | with_reducible refine inw ?_ | simp (disch := omega) only [go_sem, Nat.reduceEqDiff, ↓reduceIte, reduceCtorEq, Nat.reduceAdd, Nat.reduceMul, Int.reduceToNat, List.reduceReplicate, Nat.reduceLeDiff, Nat.reduceLT, Int.reduceLT, Int.reduceLE, Int.reduceEq] | with_reducible refine giv_intro fun _h => ?_ | with_reducible refine alt_intro ?_ fun _h => ?_ | with_reducible refine pickD_nil ?_ | (with_reducible refine brc (fun _h => ?_) fun _h => ?_) <;> first | (exfalso; omega) | simp only [decide_eq_false _h] | simp only [(_h : (_ : Bool) = _)] | simp only [decide_eq_true _h] | skip)
  rfl
theorem fresh_ok (l : List Hung) (hs : SmH l) (h0 : 0 < l.length) : FnS P 38 [sl l] (fun S L r => L = [rowO 34 l] ∧ r = own S 0 l) := by
  have hl := hs.1
  (refine fnS_look s38_ok (by simp) fun S hS => cwp_sound _ _ _ _ ?_; simp (disch := omega) only [s38, go_sem, Nat.reduceEqDiff, ↓reduceIte, reduceCtorEq, Nat.reduceAdd, Nat.reduceMul, Int.reduceToNat, List.reduceReplicate, Nat.reduceLeDiff, Nat.reduceLT, Int.reduceLT, Int.reduceLE, Int.reduceEq])
  repeat' (first | with_reducible refine inw ?_ | simp (disch := omega) only [go_sem, Nat.reduceEqDiff, ↓reduceIte, reduceCtorEq, Nat.reduceAdd, Nat.reduceMul, Int.reduceToNat, List.reduceReplicate, Nat.reduceLeDiff, Nat.reduceLT, Int.reduceLT, Int.reduceLE, Int.reduceEq] | with_reducible refine giv_intro fun _h => ?_ | with_reducible refine alt_intro ?_ fun _h => ?_ | with_reducible refine pickD_nil ?_ | (with_reducible refine brc (fun _h => ?_) fun _h => ?_) <;> first | (exfalso; omega) | simp only [decide_eq_false _h] | simp only [(_h : (_ : Bool) = _)] | simp only [decide_eq_true _h] | skip)
  refine callN (cloneH_ok l h0 (by omega)) rfl ?_
  rintro L' r ⟨rfl, rfl⟩
  simp only [own, nm_stk, List.nil_append, List.length_nil, Nat.zero_add]
  repeat' (first | with_reducible refine inw ?_ | simp (disch := omega) only [go_sem, Nat.reduceEqDiff, ↓reduceIte, reduceCtorEq, Nat.reduceAdd, Nat.reduceMul, Int.reduceToNat, List.reduceReplicate, Nat.reduceLeDiff, Nat.reduceLT, Int.reduceLT, Int.reduceLE, Int.reduceEq] | with_reducible refine giv_intro fun _h => ?_ | with_reducible refine alt_intro ?_ fun _h => ?_ | with_reducible refine pickD_nil ?_ | (with_reducible refine brc (fun _h => ?_) fun _h => ?_) <;> first | (exfalso; omega) | simp only [decide_eq_false _h] | simp only [(_h : (_ : Bool) = _)] | simp only [decide_eq_true _h] | skip)
  (refine loopC hS [3, 8] (by simp only [go_sem, Nat.reduceEqDiff, ↓reduceIte, reduceCtorEq, Nat.reduceAdd, Nat.reduceMul, Int.reduceToNat, List.reduceReplicate, Nat.reduceLeDiff, Nat.reduceLT, Int.reduceLT, Int.reduceLE, Int.reduceEq]; try rfl) (fun (i : Nat) => [(9, intA i)]) (fun (i : Nat) => [rowO 34 l]) (fun (i : Nat) => i ≤ l.length) (fun (i : Nat) => l.length - i) (0) ?h02 ?hn2 ?rd2; case hn2 => (intro s; first | rfl | (rcases s with ⟨_, _⟩; rfl) | (rcases s with ⟨_, _, _⟩; rfl) | (rcases s with ⟨_, _, _, _⟩; rfl) | (rcases s with ⟨_, _, _, _, _⟩; rfl)))
  · simp (disch := omega) only [go_sem, Nat.reduceEqDiff, ↓reduceIte, reduceCtorEq, Nat.reduceAdd, Nat.reduceMul, Int.reduceToNat, List.reduceReplicate, Nat.reduceLeDiff, Nat.reduceLT, Int.reduceLT, Int.reduceLE, Int.reduceEq]; simp
  rintro i hi
  replace hi : i ≤ l.length := hi
  by_cases hil : i < l.length
  · have hz := (hs.2 _ (nth_mem hil)).2.1
    repeat' (first | with_reducible refine inw ?_ | simp (disch := omega) only [go_sem, Nat.reduceEqDiff, ↓reduceIte, reduceCtorEq, Nat.reduceAdd, Nat.reduceMul, Int.reduceToNat, List.reduceReplicate, Nat.reduceLeDiff, Nat.reduceLT, Int.reduceLT, Int.reduceLE, Int.reduceEq, get_h0, put_h0] | (with_reducible apply call (cloneS_ok (nth l i).1 (by omega))); (focus simp (disch := omega) only [go_sem, Nat.reduceEqDiff, ↓reduceIte, reduceCtorEq, Nat.reduceAdd, Nat.reduceMul, Int.reduceToNat, List.reduceReplicate, Nat.reduceLeDiff, Nat.reduceLT, Int.reduceLT, Int.reduceLE, Int.reduceEq, get_h0, put_h0] <;> rfl) | with_reducible refine giv_intro fun _h => ?_ | with_reducible refine alt_intro ?_ fun _h => ?_ | with_reducible refine pickD_nil ?_ | (with_reducible refine brc (fun _h => ?_) fun _h => ?_) <;> first | (exfalso; omega) | simp only [decide_eq_false _h] | simp only [(_h : (_ : Bool) = _)] | simp only [decide_eq_true _h] | skip)
    exact ⟨i + 1, ⟨by omega, by omega⟩, by omega, by rw [show ((nth l i).1, (nth l i).2.1, (nth l i).2.2) = nth l i from rfl, putAt_self hil]⟩
  · repeat' (first | with_reducible refine inw ?_ | simp (disch := omega) only [go_sem, Nat.reduceEqDiff, ↓reduceIte, reduceCtorEq, Nat.reduceAdd, Nat.reduceMul, Int.reduceToNat, List.reduceReplicate, Nat.reduceLeDiff, Nat.reduceLT, Int.reduceLT, Int.reduceLE, Int.reduceEq] | with_reducible refine giv_intro fun _h => ?_ | with_reducible refine alt_intro ?_ fun _h => ?_ | with_reducible refine pickD_nil ?_ | (with_reducible refine brc (fun _h => ?_) fun _h => ?_) <;> first | (exfalso; omega) | simp only [decide_eq_false _h] | simp only [(_h : (_ : Bool) = _)] | simp only [decide_eq_true _h] | skip)
end Go.Proofs.Ytkedbkdbnmmkhaa.Ev

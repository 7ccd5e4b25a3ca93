/- The chance of a word behind others: Smooth, by the program and by the reference. -/
import Derived.Test.YtedbjmonfbpefaaFnT
import Derived.Test.YtedbjmonfbpefaaFnD
import Derived.Test.YtedbjmonfbpefaaFnI
set_option linter.unusedVariables false
set_option linter.unusedSimpArgs false
namespace Go.Proofs.Ytedbjmonfbpefaa.Ev
open Go Go.Proofs

def preG (w : List Str) (g : Gram) : Bool := decide (g.1.take (w.length - 1) = w.take (w.length - 1))
def hitG (w : List Str) (g : Gram) : Bool := decide (nth g.1 (w.length - 1) = nth w (w.length - 1))
def sumP (p : Gram → Bool) (l : List Gram) : Nat := (l.map fun g => if p g = true then g.2.toNat else 0).sum
theorem sumP_step (p : Gram → Bool) {l : List Gram} {i : Nat} (h : i < l.length) : sumP p (l.take (i + 1)) = sumP p (l.take i) + (if p (nth l i) = true then (nth l i).2.toNat else 0) := by
  rw [sumP, List.take_add_one, nth_get? h]; simp [sumP]
theorem sumP_le (p : Gram → Bool) : ∀ (l : List Gram), (∀ g ∈ l, g.2 ≤ 1000) → sumP p l ≤ 1000 * l.length
  | [], _ => by simp [sumP]
  | g :: l, h => by
    have := sumP_le p l fun x hx => h x (by simp [hx])
    have h1 := h g (by simp)
    simp only [sumP, List.map_cons, List.sum_cons, List.length_cons] at this ⊢
    split <;> omega
def lastsG (w : List Str) (l : List Gram) : List Str := l.map fun g => nth g.1 (w.length - 1)
theorem lastsG_step (w : List Str) {l : List Gram} {i : Nat} (h : i < l.length) : lastsG w (l.take (i + 1)) = lastsG w (l.take i) ++ [nth (nth l i).1 (w.length - 1)] := by
  rw [lastsG, List.take_add_one, nth_get? h]; simp [lastsG]
def smoothX (l : List Gram) (w : List Str) : Nat := 1 + sumP (fun g => preG w g && hitG w g) l
def smoothY (l : List Gram) (w : List Str) : Nat := sumP (preG w) l + (setL (lastsG w l)).length
def smoothE (l : List Gram) (w : List Str) : Int := if givenF l ≠ 0 then givenF l else if l.length = 0 ∨ w.length ≠ (nth l 0).1.length then 1 else 0
def smoothV (l : List Gram) (w : List Str) : AV := if smoothE l w = 0 then frA ((smoothX l w / Nat.gcd (smoothX l w) (smoothY l w) : Nat) : Int) ((smoothY l w / Nat.gcd (smoothX l w) (smoothY l w) : Nat) : Int) else frA 0 0

theorem insS_len (x : Str) : ∀ (l : List Str), (insS x l).length ≤ l.length + 1
  | [] => by simp [insS]
  | y :: ys => by
    have := insS_len x ys
    simp only [insS]
    split
    · simp
    · split <;> simp <;> omega
theorem setL_len : ∀ (l : List Str), (setL l).length ≤ l.length
  | [] => by simp [setL]
  | x :: l => by
    have h1 := setL_len l
    have h2 := insS_len x (setL l)
    simp only [setL, List.foldr_cons, List.length_cons] at h1 h2 ⊢
    omega
structure GoodL (l : List Gram) : Prop where
  len : l.length ≤ 200
  ws : ∀ j, j < l.length → (nth l j).1.length = (nth l 0).1.length ∧ 1 ≤ (nth l j).1.length ∧ (nth l j).1.length ≤ 4 ∧ 1 ≤ (nth l j).2 ∧ (nth l j).2 ≤ 1000
theorem good_of {l : List Gram} (h : givenF l = 0) : GoodL l := by
  unfold givenF at h
  split at h
  · cases h
  · rename_i h1
    refine ⟨by omega, fun j hj => ?_⟩
    unfold givenE at h
    split at h
    · cases h
    · rename_i h2
      have h3 : badG l j = false := by
        rw [← Bool.not_eq_true]; intro h4
        exact h2 (List.any_eq_true.2 ⟨j, List.mem_range.2 hj, h4⟩)
      simp only [badG, Bool.or_eq_false_iff, Bool.and_eq_false_iff, decide_eq_false_iff_not, Bool.not_eq_false', decide_eq_true_eq] at h3
      omega
theorem GoodL.many {l : List Gram} (h : GoodL l) (i : Nat) : ∀ g ∈ l.take i, g.2 ≤ 1000 := fun g hg => by
  obtain ⟨j, hj, rfl⟩ := List.getElem_of_mem (List.mem_of_mem_take hg)
  have := (h.ws j hj).2.2.2.2
  rwa [nth_eq hj] at this

/-- ablaut/ablautref27.Smooth: 2 parameters, 0 captured -/
def s33 : SC := .seq (.reg [⟨(some 4), .alloc 27 2 [(.int .i64 0), (.int .i64 0)], none⟩,
     ⟨(some 5), .mv (.c (.int .i64 0)), none⟩])
  (.seq (.seq (.reg [⟨(some 12), .mv (.t 0), none⟩,
       ⟨(some 13), .call (.f 70) [(.t 12)], none⟩,
       ⟨(some 6), .mv (.t 13), none⟩])
    (.seq (.reg [⟨(some 14), .mv (.t 6), none⟩,
        ⟨(some 15), .bin .neq (.t 14) (.c (.int .i64 0)), none⟩])
     (.cond (.t 15) (.seq (.reg [⟨(some 16), .build [(.int .i64 0), (.int .i64 0)] [], none⟩,
          ⟨(some 17), .mv (.t 6), none⟩,
          ⟨none, .store 2 (.t 4) (.t 16), none⟩,
          ⟨(some 5), .mv (.t 17), none⟩])
       (.ret)) (.skip))))
   (.seq (.seq (.reg [⟨(some 18), .mv (.t 1), none⟩,
        ⟨(some 19), .lenL (.t 18), none⟩,
        ⟨(some 20), .bin .eql (.t 19) (.c (.int .i64 0)), none⟩,
        ⟨(some 21), .mv (.t 20), none⟩,
        ⟨(some 22), .mv (.t 0), some (21, false)⟩,
        ⟨(some 23), .lenL (.t 22), some (21, false)⟩,
        ⟨(some 24), .bin .eql (.t 23) (.c (.int .i64 0)), some (21, false)⟩,
        ⟨(some 25), .pick (.t 21) (.c (.bool true)) (.t 24), none⟩,
        ⟨(some 26), .mv (.t 25), none⟩,
        ⟨(some 27), .mv (.t 0), some (26, false)⟩,
        ⟨(some 28), .iaddr 2 (.t 27) (.c (.int .i64 0)), some (26, false)⟩,
        ⟨(some 29), .faddr 0 (.t 28), some (26, false)⟩,
        ⟨(some 30), .load none (.t 29), some (26, false)⟩,
        ⟨(some 31), .lenL (.t 30), some (26, false)⟩,
        ⟨(some 32), .mv (.t 1), some (26, false)⟩,
        ⟨(some 33), .lenL (.t 32), some (26, false)⟩,
        ⟨(some 34), .bin .neq (.t 31) (.t 33), some (26, false)⟩,
        ⟨(some 35), .pick (.t 26) (.c (.bool true)) (.t 34), none⟩])
     (.cond (.t 35) (.seq (.reg [⟨(some 36), .build [(.int .i64 0), (.int .i64 0)] [], none⟩,
          ⟨none, .store 2 (.t 4) (.t 36), none⟩,
          ⟨(some 5), .mv (.c (.int .i64 1)), none⟩])
       (.ret)) (.skip)))
    (.seq (.reg [⟨(some 37), .mv (.t 1), none⟩,
        ⟨(some 38), .lenL (.t 37), none⟩,
        ⟨(some 39), .bin .sub (.t 38) (.c (.int .i64 1)), none⟩,
        ⟨(some 7), .mv (.t 39), none⟩])
     (.seq (.reg [⟨(some 8), .mv (.c (.int .i64 1)), none⟩,
         ⟨(some 9), .mv (.c (.int .i64 0)), none⟩])
      (.seq (.reg [⟨(some 10), .mv (.c (.slice none 0 0)), none⟩])
       (.seq (.seq (.reg [⟨(some 11), .mv (.c (.int .i64 0)), none⟩])
         (.block 0 (.loop (.seq (.seq (.reg [⟨(some 40), .mv (.t 11), none⟩,
                ⟨(some 41), .mv (.t 0), none⟩,
                ⟨(some 42), .lenL (.t 41), none⟩,
                ⟨(some 43), .bin .lss (.t 40) (.t 42), none⟩])
             (.cond (.t 43) (.skip) (.exit 0)))
            (.seq (.block 1 (.seq (.reg [⟨(some 46), .mv (.t 10), none⟩,
                  ⟨(some 47), .mv (.t 0), none⟩,
                  ⟨(some 48), .mv (.t 11), none⟩,
                  ⟨(some 49), .iaddr 2 (.t 47) (.t 48), none⟩,
                  ⟨(some 50), .faddr 0 (.t 49), none⟩,
                  ⟨(some 51), .load none (.t 50), none⟩,
                  ⟨(some 52), .mv (.t 7), none⟩,
                  ⟨(some 53), .iaddr 1 (.t 51) (.t 52), none⟩,
                  ⟨(some 54), .load none (.t 53), none⟩,
                  ⟨(some 55), .buildSl 9 1 1 [(.string ⟨#[]⟩)] [(0, 1, (.t 54))], none⟩,
                  ⟨(some 56), .app 9 1 16 (.t 46) (.t 55), none⟩,
                  ⟨(some 10), .mv (.t 56), none⟩])
               (.seq (.regD [⟨(some 57), .mv (.t 0), none⟩,
                   ⟨(some 58), .mv (.t 11), none⟩,
                   ⟨(some 59), .iaddr 2 (.t 57) (.t 58), none⟩,
                   ⟨(some 60), .faddr 0 (.t 59), none⟩,
                   ⟨(some 61), .load none (.t 60), none⟩,
                   ⟨(some 62), .mv (.t 7), none⟩,
                   ⟨(some 63), .sl 1 (.t 61) none (some (.t 62)), none⟩,
                   ⟨(some 64), .mv (.t 1), none⟩,
                   ⟨(some 65), .mv (.t 7), none⟩,
                   ⟨(some 66), .sl 1 (.t 64) none (some (.t 65)), none⟩,
                   ⟨(some 67), .call (.f 71) [(.t 63), (.t 66)], none⟩])
                (.cond (.t 67) (.seq (.reg [⟨(some 68), .mv (.t 9), none⟩,
                     ⟨(some 69), .mv (.t 0), none⟩,
                     ⟨(some 70), .mv (.t 11), none⟩,
                     ⟨(some 71), .iaddr 2 (.t 69) (.t 70), none⟩,
                     ⟨(some 72), .faddr 1 (.t 71), none⟩,
                     ⟨(some 73), .load none (.t 72), none⟩,
                     ⟨(some 74), .bin .add (.t 68) (.t 73), none⟩,
                     ⟨(some 9), .mv (.t 74), none⟩])
                  (.seq (.regD [⟨(some 75), .mv (.t 0), none⟩,
                      ⟨(some 76), .mv (.t 11), none⟩,
                      ⟨(some 77), .iaddr 2 (.t 75) (.t 76), none⟩,
                      ⟨(some 78), .faddr 0 (.t 77), none⟩,
                      ⟨(some 79), .load none (.t 78), none⟩,
                      ⟨(some 80), .mv (.t 7), none⟩,
                      ⟨(some 81), .iaddr 1 (.t 79) (.t 80), none⟩,
                      ⟨(some 82), .load none (.t 81), none⟩,
                      ⟨(some 83), .mv (.t 1), none⟩,
                      ⟨(some 84), .mv (.t 7), none⟩,
                      ⟨(some 85), .iaddr 1 (.t 83) (.t 84), none⟩,
                      ⟨(some 86), .load none (.t 85), none⟩,
                      ⟨(some 87), .bin .eql (.t 82) (.t 86), none⟩])
                   (.cond (.t 87) (.reg [⟨(some 88), .mv (.t 8), none⟩,
                       ⟨(some 89), .mv (.t 0), none⟩,
                       ⟨(some 90), .mv (.t 11), none⟩,
                       ⟨(some 91), .iaddr 2 (.t 89) (.t 90), none⟩,
                       ⟨(some 92), .faddr 1 (.t 91), none⟩,
                       ⟨(some 93), .load none (.t 92), none⟩,
                       ⟨(some 94), .bin .add (.t 88) (.t 93), none⟩,
                       ⟨(some 8), .mv (.t 94), none⟩]) (.skip)))) (.skip)))))
             (.reg [⟨(some 44), .mv (.t 11), none⟩,
                ⟨(some 45), .bin .add (.t 44) (.c (.int .i64 1)), none⟩,
                ⟨(some 11), .mv (.t 45), none⟩]))))))
        (.seq (.reg [⟨(some 95), .mv (.t 8), none⟩,
            ⟨(some 96), .mv (.t 9), none⟩,
            ⟨(some 97), .mv (.t 10), none⟩,
            ⟨(some 98), .call (.f 72) [(.t 97)], none⟩,
            ⟨(some 99), .lenL (.t 98), none⟩,
            ⟨(some 100), .bin .add (.t 96) (.t 99), none⟩,
            ⟨(some 101), .call (.f 53) [(.t 95), (.t 100)], none⟩,
            ⟨none, .store 2 (.t 4) (.t 101), none⟩,
            ⟨(some 5), .mv (.c (.int .i64 0)), none⟩])
         (.ret))))))))
theorem s33_ok : lookF Try.prog 33 = some (s33, 102, [.cell 4 (some 2), .tmp 5]) := by kernel_rfl
set_option maxHeartbeats 1000000 in
theorem rSmooth_ok (l : List Gram) (w : List Str) (hs : ∀ g ∈ l, g.1.length ≤ 8796093022208) (hw : w.length ≤ 8796093022208) : Fn P 33 [sl l, sl w] (.tup [smoothV l w, intA (smoothE l w)]) := by
  have c0 := rGiven_ok l hs
  by_cases hg : givenF l = 0
  · have hgood := good_of hg
    rw [hg] at c0
    have hlen := hgood.len
    by_cases h0 : l.length = 0
    · have e1 : smoothE l w = 1 := by rw [smoothE, if_neg (by omega), if_pos (.inl h0)]
      have e2 : smoothV l w = frA 0 0 := by rw [smoothV, if_neg (by omega)]
      rw [e1, e2]
      (refine fn_look s33_ok (by simp) (by intro k; simp only [go_sem, Nat.reduceEqDiff, ↓reduceIte, reduceCtorEq, Nat.reduceAdd, Nat.reduceMul, Int.reduceToNat, List.reduceReplicate, Nat.reduceLeDiff, Nat.reduceLT, Int.reduceLT, Int.reduceLE, Int.reduceEq]) fun S hS => cwp_sound _ _ _ _ ?_; simp (disch := omega) only [s33, go_sem, Nat.reduceEqDiff, ↓reduceIte, reduceCtorEq, Nat.reduceAdd, Nat.reduceMul, Int.reduceToNat, List.reduceReplicate, Nat.reduceLeDiff, Nat.reduceLT, Int.reduceLT, Int.reduceLE, Int.reduceEq])
      repeat' (first | (with_reducible refine in_seq ?_) | (with_reducible refine in_reg ?_) | (with_reducible refine in_block ?_) | (with_reducible refine in_cond ?_) | (with_reducible refine in_ret ?_) | (with_reducible refine in_skip ?_) | (simp (disch := omega) only [go_sem, Nat.reduceEqDiff, ↓reduceIte, reduceCtorEq, Nat.reduceAdd, Nat.reduceMul, Int.reduceToNat, List.reduceReplicate, Nat.reduceLeDiff, Nat.reduceLT, Int.reduceLT, Int.reduceLE, Int.reduceEq]) | (with_reducible refine giv_intro fun _h => ?_) | (with_reducible refine alt_intro ?_ (fun _h => ?_)) | ((first | with_reducible refine br_dec (fun _h => ?_) (fun _h => ?_) | with_reducible refine br_ndec (fun _h => ?_) (fun _h => ?_)) <;> (first | (exfalso; omega) | simp only [decide_eq_false _h] | simp only [decide_eq_true _h] | skip)) | ((first | with_reducible refine br_not (fun _h => ?_) (fun _h => ?_) | with_reducible refine br_var (fun _h => ?_) (fun _h => ?_)) <;> (try simp only [_h])) | ((with_reducible apply call (c0)); (focus (simp (disch := omega) only [go_sem, Nat.reduceEqDiff, ↓reduceIte, reduceCtorEq, Nat.reduceAdd, Nat.reduceMul, Int.reduceToNat, List.reduceReplicate, Nat.reduceLeDiff, Nat.reduceLT, Int.reduceLT, Int.reduceLE, Int.reduceEq]; (try rfl); done))) | fail)
    · have h1 := hgood.ws 0 (by omega)
      have ez : (List.head? (cellsL l)) = some (sl (nth l 0).1) := by
        cases l with
        | nil => simp at h0
        | cons g l => rfl
      by_cases hwl : w.length = (nth l 0).1.length
      · have e1 : smoothE l w = 0 := by rw [smoothE, if_neg (by omega), if_neg (by omega)]
        have e2 : smoothV l w = frA ((smoothX l w / Nat.gcd (smoothX l w) (smoothY l w) : Nat) : Int) ((smoothY l w / Nat.gcd (smoothX l w) (smoothY l w) : Nat) : Int) := by rw [smoothV, if_pos e1]
        rw [e1, e2]
        have ew : ((w.length : Int) - 1).toNat = w.length - 1 := by omega
        (refine fn_look s33_ok (by simp) (by intro k; simp only [go_sem, Nat.reduceEqDiff, ↓reduceIte, reduceCtorEq, Nat.reduceAdd, Nat.reduceMul, Int.reduceToNat, List.reduceReplicate, Nat.reduceLeDiff, Nat.reduceLT, Int.reduceLT, Int.reduceLE, Int.reduceEq]) fun S hS => cwp_sound _ _ _ _ ?_; simp (disch := omega) only [s33, go_sem, Nat.reduceEqDiff, ↓reduceIte, reduceCtorEq, Nat.reduceAdd, Nat.reduceMul, Int.reduceToNat, List.reduceReplicate, Nat.reduceLeDiff, Nat.reduceLT, Int.reduceLT, Int.reduceLE, Int.reduceEq])
        repeat' (first | (with_reducible refine in_seq ?_) | (with_reducible refine in_reg ?_) | (with_reducible refine in_block ?_) | (with_reducible refine in_cond ?_) | (with_reducible refine in_ret ?_) | (with_reducible refine in_skip ?_) | (simp (disch := omega) only [go_sem, Nat.reduceEqDiff, ↓reduceIte, reduceCtorEq, Nat.reduceAdd, Nat.reduceMul, Int.reduceToNat, List.reduceReplicate, Nat.reduceLeDiff, Nat.reduceLT, Int.reduceLT, Int.reduceLE, Int.reduceEq, ez]) | (with_reducible refine giv_intro fun _h => ?_) | (with_reducible refine alt_intro ?_ (fun _h => ?_)) | ((first | with_reducible refine br_dec (fun _h => ?_) (fun _h => ?_) | with_reducible refine br_ndec (fun _h => ?_) (fun _h => ?_)) <;> (first | (exfalso; omega) | simp only [decide_eq_false _h] | simp only [decide_eq_true _h] | skip)) | ((first | with_reducible refine br_not (fun _h => ?_) (fun _h => ?_) | with_reducible refine br_var (fun _h => ?_) (fun _h => ?_)) <;> (try simp only [_h])) | ((with_reducible apply call (c0)); (focus (simp (disch := omega) only [go_sem, Nat.reduceEqDiff, ↓reduceIte, reduceCtorEq, Nat.reduceAdd, Nat.reduceMul, Int.reduceToNat, List.reduceReplicate, Nat.reduceLeDiff, Nat.reduceLT, Int.reduceLT, Int.reduceLE, Int.reduceEq, ez]; (try rfl); done))) | fail)
        refine nil_row 10 9 1 (by simp (disch := omega) only [go_sem, Nat.reduceEqDiff, ↓reduceIte, reduceCtorEq, Nat.reduceAdd, Nat.reduceMul, Int.reduceToNat, List.reduceReplicate, Nat.reduceLeDiff, Nat.reduceLT, Int.reduceLT, Int.reduceLE, Int.reduceEq]) ?_
        (refine loopC hS [0, 1, 4, 7] (by simp only [go_sem, Nat.reduceEqDiff, ↓reduceIte, reduceCtorEq, Nat.reduceAdd, Nat.reduceMul, Int.reduceToNat, List.reduceReplicate, Nat.reduceLeDiff, Nat.reduceLT, Int.reduceLT, Int.reduceLE, Int.reduceEq]; try rfl) (fun (i : Nat) => [(8, intA ((1 + sumP (fun g => preG w g && hitG w g) (l.take i) : Nat) : Int)), (9, intA ((sumP (preG w) (l.take i) : Nat) : Int)), (10, own S 1 (lastsG w (l.take i))), (11, intA i)]) (fun (i : Nat) => [some (.row 27 2 [intA 0, intA 0]), rowO 9 (lastsG w (l.take i))]) (fun (i : Nat) => i ≤ l.length) (fun (i : Nat) => l.length - i) (0) ?h01 ?hn1 ?rd1; case hn1 => (intro s; first | rfl | (rcases s with ⟨_, _⟩; rfl) | (rcases s with ⟨_, _, _⟩; rfl) | (rcases s with ⟨_, _, _, _⟩; rfl) | (rcases s with ⟨_, _, _, _, _⟩; rfl)))
        · simp (disch := omega) only [go_sem, Nat.reduceEqDiff, ↓reduceIte, reduceCtorEq, Nat.reduceAdd, Nat.reduceMul, Int.reduceToNat, List.reduceReplicate, Nat.reduceLeDiff, Nat.reduceLT, Int.reduceLT, Int.reduceLE, Int.reduceEq]; simp [sumP, lastsG]; rfl
        · rintro i hi
          replace hi : i ≤ l.length := hi
          have b1 := sumP_le (fun g => preG w g && hitG w g) (l.take i) (hgood.many i)
          have b2 := sumP_le (preG w) (l.take i) (hgood.many i)
          have b3 : (l.take i).length = i := by simp; omega
          have b4 : (lastsG w (l.take i)).length = i := by simp [lastsG]; omega
          rw [b3] at b1 b2
          by_cases hil : i < l.length
          · have g1 := hgood.ws i hil
            have c1 := rSame_ok ((nth l i).1.take (w.length - 1)) (w.take (w.length - 1)) (by simp; omega) (by simp; omega)
            have ew2 : (IntKind.i64.wrap ((w.length : Int) - 1)).toNat = w.length - 1 := by rw [wrap_nat (by omega)]; exact ew
            repeat' (first | (with_reducible refine in_seq ?_) | (with_reducible refine in_reg ?_) | (with_reducible refine in_block ?_) | (with_reducible refine in_cond ?_) | (with_reducible refine in_ret ?_) | (with_reducible refine in_skip ?_) | (simp (disch := omega) only [go_sem, Nat.reduceEqDiff, ↓reduceIte, reduceCtorEq, Nat.reduceAdd, Nat.reduceMul, Int.reduceToNat, List.reduceReplicate, Nat.reduceLeDiff, Nat.reduceLT, Int.reduceLT, Int.reduceLE, Int.reduceEq, ew, ew2, b4]) | (with_reducible refine giv_intro fun _h => ?_) | (with_reducible refine alt_intro ?_ (fun _h => ?_)) | ((first | with_reducible refine br_dec (fun _h => ?_) (fun _h => ?_) | with_reducible refine br_ndec (fun _h => ?_) (fun _h => ?_)) <;> (first | (exfalso; omega) | simp only [decide_eq_false _h] | simp only [decide_eq_true _h] | skip)) | ((first | with_reducible refine br_not (fun _h => ?_) (fun _h => ?_) | with_reducible refine br_var (fun _h => ?_) (fun _h => ?_)) <;> (try simp only [_h])) | ((with_reducible apply call_D (c1)); (focus (simp (disch := omega) only [go_sem, Nat.reduceEqDiff, ↓reduceIte, reduceCtorEq, Nat.reduceAdd, Nat.reduceMul, Int.reduceToNat, List.reduceReplicate, Nat.reduceLeDiff, Nat.reduceLT, Int.reduceLT, Int.reduceLE, Int.reduceEq, ew, ew2, b4]; (try rfl); done))) | fail)
            all_goals
              refine ⟨i + 1, ⟨by omega, by omega⟩, ?_, ?_⟩
              · have hp : preG w (nth l i) = decide (List.take (w.length - 1) (nth l i).1 = List.take (w.length - 1) w) := rfl
                have hh : hitG w (nth l i) = decide (nth (nth l i).1 (w.length - 1) = nth w (w.length - 1)) := rfl
                rw [sumP_step _ hil, sumP_step _ hil, lastsG_step w hil]
                simp only [hp, hh, Bool.and_eq_true, decide_eq_true_eq, List.length_append, List.length_singleton, b4]
                try simp only [and_true, true_and, and_self]
                first
                  | (rw [if_pos ⟨by assumption, by assumption⟩, if_pos (by assumption)]; omega)
                  | (rw [if_neg (fun h => absurd h.2 (by assumption)), if_pos (by assumption)]; omega)
                  | (rw [if_neg (fun h => absurd h.1 (by assumption)), if_neg (by assumption)]; omega)
              · rw [lastsG_step w hil]
          · refine in_seq ?_
            repeat' (first | (simp (disch := omega) only [go_sem, Nat.reduceEqDiff, ↓reduceIte, reduceCtorEq, Nat.reduceAdd, Nat.reduceMul, Int.reduceToNat, List.reduceReplicate, Nat.reduceLeDiff, Nat.reduceLT, Int.reduceLT, Int.reduceLE, Int.reduceEq]) | (with_reducible refine giv_intro fun _h => ?_) | (with_reducible refine alt_intro ?_ (fun _h => ?_)) | ((first | with_reducible refine br_dec (fun _h => ?_) (fun _h => ?_) | with_reducible refine br_ndec (fun _h => ?_) (fun _h => ?_)) <;> (first | (exfalso; omega) | simp only [decide_eq_false _h] | simp only [decide_eq_true _h] | skip)) | ((first | with_reducible refine br_not (fun _h => ?_) (fun _h => ?_) | with_reducible refine br_var (fun _h => ?_) (fun _h => ?_)) <;> (try simp only [_h])) | fail)
            refine freezeF 10 1 9 (lastsG w (l.take i)) (by simp (disch := omega) only [go_sem, Nat.reduceEqDiff, ↓reduceIte, reduceCtorEq, Nat.reduceAdd, Nat.reduceMul, Int.reduceToNat, List.reduceReplicate, Nat.reduceLeDiff, Nat.reduceLT, Int.reduceLT, Int.reduceLE, Int.reduceEq]) (by simp (disch := omega) only [go_sem, Nat.reduceEqDiff, ↓reduceIte, reduceCtorEq, Nat.reduceAdd, Nat.reduceMul, Int.reduceToNat, List.reduceReplicate, Nat.reduceLeDiff, Nat.reduceLT, Int.reduceLT, Int.reduceLE, Int.reduceEq]) (by simp) ?_
            simp only [List.set_cons_zero, List.set_cons_succ]
            have c2 := rSet_ok (lastsG w (l.take i)) (by omega)
            have b5 := setL_len (lastsG w (l.take i))
            have hl2 : l.take i = l := List.take_of_length_le (by omega)
            have c3 := refLeast_ok (1 + sumP (fun g => preG w g && hitG w g) (l.take i)) (sumP (preG w) (l.take i) + (setL (lastsG w (l.take i))).length) (Nat.gcd_pos_of_pos_left _ (by omega)) (by omega) (by omega)
            have ec : ((sumP (preG w) (l.take i) : Nat) : Int) + ((setL (lastsG w (l.take i))).length : Int) = ((sumP (preG w) (l.take i) + (setL (lastsG w (l.take i))).length : Nat) : Int) := by omega
            repeat' (first | (with_reducible refine in_seq ?_) | (with_reducible refine in_reg ?_) | (with_reducible refine in_block ?_) | (with_reducible refine in_cond ?_) | (with_reducible refine in_ret ?_) | (with_reducible refine in_skip ?_) | (simp (disch := omega) only [go_sem, Nat.reduceEqDiff, ↓reduceIte, reduceCtorEq, Nat.reduceAdd, Nat.reduceMul, Int.reduceToNat, List.reduceReplicate, Nat.reduceLeDiff, Nat.reduceLT, Int.reduceLT, Int.reduceLE, Int.reduceEq, ec]) | (with_reducible refine giv_intro fun _h => ?_) | (with_reducible refine alt_intro ?_ (fun _h => ?_)) | ((first | with_reducible refine br_dec (fun _h => ?_) (fun _h => ?_) | with_reducible refine br_ndec (fun _h => ?_) (fun _h => ?_)) <;> (first | (exfalso; omega) | simp only [decide_eq_false _h] | simp only [decide_eq_true _h] | skip)) | ((first | with_reducible refine br_not (fun _h => ?_) (fun _h => ?_) | with_reducible refine br_var (fun _h => ?_) (fun _h => ?_)) <;> (try simp only [_h])) | ((with_reducible apply call (c2)); (focus (simp (disch := omega) only [go_sem, Nat.reduceEqDiff, ↓reduceIte, reduceCtorEq, Nat.reduceAdd, Nat.reduceMul, Int.reduceToNat, List.reduceReplicate, Nat.reduceLeDiff, Nat.reduceLT, Int.reduceLT, Int.reduceLE, Int.reduceEq, ec]; (try rfl); done))) | ((with_reducible apply call (c3)); (focus (simp (disch := omega) only [go_sem, Nat.reduceEqDiff, ↓reduceIte, reduceCtorEq, Nat.reduceAdd, Nat.reduceMul, Int.reduceToNat, List.reduceReplicate, Nat.reduceLeDiff, Nat.reduceLT, Int.reduceLT, Int.reduceLE, Int.reduceEq, ec]; (try rfl); done))) | fail)
            rw [hl2]; rfl
      · have e1 : smoothE l w = 1 := by rw [smoothE, if_neg (by omega), if_pos (.inr hwl)]
        have e2 : smoothV l w = frA 0 0 := by rw [smoothV, if_neg (by omega)]
        rw [e1, e2]
        (refine fn_look s33_ok (by simp) (by intro k; simp only [go_sem, Nat.reduceEqDiff, ↓reduceIte, reduceCtorEq, Nat.reduceAdd, Nat.reduceMul, Int.reduceToNat, List.reduceReplicate, Nat.reduceLeDiff, Nat.reduceLT, Int.reduceLT, Int.reduceLE, Int.reduceEq]) fun S hS => cwp_sound _ _ _ _ ?_; simp (disch := omega) only [s33, go_sem, Nat.reduceEqDiff, ↓reduceIte, reduceCtorEq, Nat.reduceAdd, Nat.reduceMul, Int.reduceToNat, List.reduceReplicate, Nat.reduceLeDiff, Nat.reduceLT, Int.reduceLT, Int.reduceLE, Int.reduceEq])
        repeat' (first | (with_reducible refine in_seq ?_) | (with_reducible refine in_reg ?_) | (with_reducible refine in_block ?_) | (with_reducible refine in_cond ?_) | (with_reducible refine in_ret ?_) | (with_reducible refine in_skip ?_) | (simp (disch := omega) only [go_sem, Nat.reduceEqDiff, ↓reduceIte, reduceCtorEq, Nat.reduceAdd, Nat.reduceMul, Int.reduceToNat, List.reduceReplicate, Nat.reduceLeDiff, Nat.reduceLT, Int.reduceLT, Int.reduceLE, Int.reduceEq, ez]) | (with_reducible refine giv_intro fun _h => ?_) | (with_reducible refine alt_intro ?_ (fun _h => ?_)) | ((first | with_reducible refine br_dec (fun _h => ?_) (fun _h => ?_) | with_reducible refine br_ndec (fun _h => ?_) (fun _h => ?_)) <;> (first | (exfalso; omega) | simp only [decide_eq_false _h] | simp only [decide_eq_true _h] | skip)) | ((first | with_reducible refine br_not (fun _h => ?_) (fun _h => ?_) | with_reducible refine br_var (fun _h => ?_) (fun _h => ?_)) <;> (try simp only [_h])) | ((with_reducible apply call (c0)); (focus (simp (disch := omega) only [go_sem, Nat.reduceEqDiff, ↓reduceIte, reduceCtorEq, Nat.reduceAdd, Nat.reduceMul, Int.reduceToNat, List.reduceReplicate, Nat.reduceLeDiff, Nat.reduceLT, Int.reduceLT, Int.reduceLE, Int.reduceEq, ez]; (try rfl); done))) | fail)
  · have e1 : smoothE l w = givenF l := by rw [smoothE, if_pos hg]
    have e2 : smoothV l w = frA 0 0 := by rw [smoothV, if_neg (by omega)]
    rw [e1, e2]
    (refine fn_look s33_ok (by simp) (by intro k; simp only [go_sem, Nat.reduceEqDiff, ↓reduceIte, reduceCtorEq, Nat.reduceAdd, Nat.reduceMul, Int.reduceToNat, List.reduceReplicate, Nat.reduceLeDiff, Nat.reduceLT, Int.reduceLT, Int.reduceLE, Int.reduceEq]) fun S hS => cwp_sound _ _ _ _ ?_; simp (disch := omega) only [s33, go_sem, Nat.reduceEqDiff, ↓reduceIte, reduceCtorEq, Nat.reduceAdd, Nat.reduceMul, Int.reduceToNat, List.reduceReplicate, Nat.reduceLeDiff, Nat.reduceLT, Int.reduceLT, Int.reduceLE, Int.reduceEq])
    repeat' (first | (with_reducible refine in_seq ?_) | (with_reducible refine in_reg ?_) | (with_reducible refine in_block ?_) | (with_reducible refine in_cond ?_) | (with_reducible refine in_ret ?_) | (with_reducible refine in_skip ?_) | (simp (disch := omega) only [go_sem, Nat.reduceEqDiff, ↓reduceIte, reduceCtorEq, Nat.reduceAdd, Nat.reduceMul, Int.reduceToNat, List.reduceReplicate, Nat.reduceLeDiff, Nat.reduceLT, Int.reduceLT, Int.reduceLE, Int.reduceEq]) | (with_reducible refine giv_intro fun _h => ?_) | (with_reducible refine alt_intro ?_ (fun _h => ?_)) | ((first | with_reducible refine br_dec (fun _h => ?_) (fun _h => ?_) | with_reducible refine br_ndec (fun _h => ?_) (fun _h => ?_)) <;> (first | (exfalso; omega) | simp only [decide_eq_false _h] | simp only [decide_eq_true _h] | skip)) | ((first | with_reducible refine br_not (fun _h => ?_) (fun _h => ?_) | with_reducible refine br_var (fun _h => ?_) (fun _h => ?_)) <;> (try simp only [_h])) | ((with_reducible apply call (c0)); (focus (simp (disch := omega) only [go_sem, Nat.reduceEqDiff, ↓reduceIte, reduceCtorEq, Nat.reduceAdd, Nat.reduceMul, Int.reduceToNat, List.reduceReplicate, Nat.reduceLeDiff, Nat.reduceLT, Int.reduceLT, Int.reduceLE, Int.reduceEq]; (try rfl); done))) | fail)

/-! ### the program's: a map of the last words -/
def keysM {α : Type} (m : List (Str × α)) : List Str := m.map (·.1)
theorem keys_putM {α : Type} {m : List (Str × α)} {a : Str} {y : α} : (keysM m).Nodup → (keysM (putM m a y)).Nodup ∧ ∀ z, z ∈ keysM (putM m a y) ↔ z = a ∨ z ∈ keysM m := by
  induction m with
  | nil => intro _; simp [putM, keysM]
  | cons p m ih =>
    obtain ⟨c, x⟩ := p
    intro h
    simp only [keysM, List.map_cons, List.nodup_cons] at h
    obtain ⟨i1, i2⟩ := ih h.2
    simp only [putM]
    by_cases e : a = c
    · subst e; simp only [if_true, keysM, List.map_cons, List.nodup_cons, List.mem_cons]; exact ⟨h, fun z => by simp⟩
    · simp only [if_neg e, keysM, List.map_cons, List.nodup_cons, List.mem_cons]
      refine ⟨⟨fun h2 => ?_, i1⟩, fun z => ?_⟩
      · rcases (i2 c).1 h2 with h3 | h3
        · exact e h3.symm
        · exact h.1 h3
      · have := i2 z
        simp only [keysM] at this
        rw [this]
        constructor <;> (rintro (h | h | h) <;> simp [h])
theorem nodup_sub_len : ∀ {a b : List Str}, a.Nodup → (∀ x ∈ a, x ∈ b) → a.length ≤ b.length
  | [], _, _, _ => by simp
  | x :: a, b, h, hs => by
    obtain ⟨h1, h2⟩ := List.nodup_cons.1 h
    have hx := hs x (by simp)
    have i := nodup_sub_len (b := b.filter fun y => decide (y ≠ x)) h2 fun y hy => List.mem_filter.2 ⟨hs y (by simp [hy]), by simp; rintro rfl; exact h1 hy⟩
    have j := filter_lt (l := b) (p := fun y => decide (y ≠ x)) (q := fun _ => true) (fun _ _ _ => rfl) ⟨x, hx, rfl, by simp⟩
    have k : b.filter (fun _ => true) = b := by simp
    rw [k] at j
    simp only [List.length_cons]; omega
theorem asc_nodup {l : List Str} (h : l.Pairwise (fun a b => ltB a b = true)) : l.Nodup := by
  refine List.Pairwise.imp (fun {a b} h e => ?_) h
  subst e; rw [ltB_irrefl] at h; cases h
structure MapOk (m : List (Str × Bool)) (l : List Str) : Prop where
  nd : (keysM m).Nodup
  mem : ∀ z, z ∈ keysM m ↔ z ∈ l
theorem MapOk.step {m : List (Str × Bool)} {l : List Str} (h : MapOk m l) (x : Str) : MapOk (putM m x true) (l ++ [x]) := by
  obtain ⟨h1, h2⟩ := keys_putM (a := x) (y := true) h.nd
  exact ⟨h1, fun z => by rw [h2, h.mem]; simp; exact Or.comm⟩
theorem MapOk.len {m : List (Str × Bool)} {l : List Str} (h : MapOk m l) : m.length = (setL l).length := by
  have e : m.length = (keysM m).length := by simp [keysM]
  rw [e]
  exact Nat.le_antisymm (nodup_sub_len h.nd fun x hx => mem_setL.2 ((h.mem x).1 hx)) (nodup_sub_len (asc_nodup (asc_setL l)) fun x hx => (h.mem x).2 (mem_setL.1 hx))

/-- ablaut/tally.Smooth: 2 parameters, 0 captured -/
def s32 : SC := .seq (.reg [⟨(some 4), .alloc 27 2 [(.int .i64 0), (.int .i64 0)], none⟩,
     ⟨(some 5), .mv (.c (.int .i64 0)), none⟩])
  (.seq (.seq (.reg [⟨(some 13), .mv (.t 0), none⟩,
       ⟨(some 14), .call (.f 68) [(.t 13)], none⟩,
       ⟨(some 6), .mv (.t 14), none⟩])
    (.seq (.reg [⟨(some 15), .mv (.t 6), none⟩,
        ⟨(some 16), .bin .neq (.t 15) (.c (.int .i64 0)), none⟩])
     (.cond (.t 16) (.seq (.reg [⟨(some 17), .build [(.int .i64 0), (.int .i64 0)] [], none⟩,
          ⟨(some 18), .mv (.t 6), none⟩,
          ⟨none, .store 2 (.t 4) (.t 17), none⟩,
          ⟨(some 5), .mv (.t 18), none⟩])
       (.ret)) (.skip))))
   (.seq (.seq (.reg [⟨(some 19), .mv (.t 0), none⟩,
        ⟨(some 20), .lenL (.t 19), none⟩,
        ⟨(some 21), .bin .eql (.t 20) (.c (.int .i64 0)), none⟩,
        ⟨(some 22), .mv (.t 21), none⟩,
        ⟨(some 23), .mv (.t 1), some (22, false)⟩,
        ⟨(some 24), .lenL (.t 23), some (22, false)⟩,
        ⟨(some 25), .mv (.t 0), some (22, false)⟩,
        ⟨(some 26), .iaddr 2 (.t 25) (.c (.int .i64 0)), some (22, false)⟩,
        ⟨(some 27), .faddr 0 (.t 26), some (22, false)⟩,
        ⟨(some 28), .load none (.t 27), some (22, false)⟩,
        ⟨(some 29), .lenL (.t 28), some (22, false)⟩,
        ⟨(some 30), .bin .neq (.t 24) (.t 29), some (22, false)⟩,
        ⟨(some 31), .pick (.t 22) (.c (.bool true)) (.t 30), none⟩])
     (.cond (.t 31) (.seq (.reg [⟨(some 32), .build [(.int .i64 0), (.int .i64 0)] [], none⟩,
          ⟨none, .store 2 (.t 4) (.t 32), none⟩,
          ⟨(some 5), .mv (.c (.int .i64 1)), none⟩])
       (.ret)) (.skip)))
    (.seq (.reg [⟨(some 33), .mv (.t 1), none⟩,
        ⟨(some 34), .lenL (.t 33), none⟩,
        ⟨(some 35), .bin .sub (.t 34) (.c (.int .i64 1)), none⟩,
        ⟨(some 7), .mv (.t 35), none⟩])
     (.seq (.reg [⟨(some 8), .mv (.c (.int .i64 1)), none⟩,
         ⟨(some 9), .mv (.c (.int .i64 0)), none⟩])
      (.seq (.reg [⟨(some 36), .mkmap, none⟩,
          ⟨(some 10), .mv (.t 36), none⟩])
       (.seq (.seq (.reg [⟨(some 37), .mv (.t 0), none⟩,
            ⟨(some 38), .lenL (.t 37), none⟩,
            ⟨(some 39), .mv (.c (.int .i64 0)), none⟩])
         (.block 0 (.loop (.seq (.reg [⟨(some 40), .bin .lss (.t 39) (.t 38), none⟩])
            (.seq (.cond (.t 40) (.skip) (.exit 0))
             (.seq (.block 1 (.seq (.reg [⟨(some 41), .iaddr 2 (.t 37) (.t 39), none⟩,
                   ⟨(some 42), .load (some 2) (.t 41), none⟩,
                   ⟨(some 12), .alloc 89 2 [(.slice none 0 0), (.int .i64 0)], none⟩,
                   ⟨none, .store 2 (.t 12) (.t 42), none⟩])
                (.seq (.reg [⟨(some 43), .mv (.t 10), none⟩,
                    ⟨(some 44), .faddr 0 (.t 12), none⟩,
                    ⟨(some 45), .load none (.t 44), none⟩,
                    ⟨(some 46), .mv (.t 7), none⟩,
                    ⟨(some 47), .iaddr 1 (.t 45) (.t 46), none⟩,
                    ⟨(some 48), .load none (.t 47), none⟩,
                    ⟨none, .mupd .str (.t 43) (.t 48) (.c (.bool true)), none⟩])
                 (.seq (.regD [⟨(some 49), .faddr 0 (.t 12), none⟩,
                     ⟨(some 50), .load none (.t 49), none⟩,
                     ⟨(some 51), .mv (.t 7), none⟩,
                     ⟨(some 52), .sl 1 (.t 50) none (some (.t 51)), none⟩,
                     ⟨(some 53), .mv (.t 1), none⟩,
                     ⟨(some 54), .mv (.t 7), none⟩,
                     ⟨(some 55), .sl 1 (.t 53) none (some (.t 54)), none⟩,
                     ⟨(some 56), .call (.f 69) [(.t 52), (.t 55)], none⟩])
                  (.cond (.t 56) (.seq (.reg [⟨(some 57), .mv (.t 9), none⟩,
                       ⟨(some 58), .faddr 1 (.t 12), none⟩,
                       ⟨(some 59), .load none (.t 58), none⟩,
                       ⟨(some 60), .bin .add (.t 57) (.t 59), none⟩,
                       ⟨(some 9), .mv (.t 60), none⟩])
                    (.seq (.regD [⟨(some 61), .faddr 0 (.t 12), none⟩,
                        ⟨(some 62), .load none (.t 61), none⟩,
                        ⟨(some 63), .mv (.t 7), none⟩,
                        ⟨(some 64), .iaddr 1 (.t 62) (.t 63), none⟩,
                        ⟨(some 65), .load none (.t 64), none⟩,
                        ⟨(some 66), .mv (.t 1), none⟩,
                        ⟨(some 67), .mv (.t 7), none⟩,
                        ⟨(some 68), .iaddr 1 (.t 66) (.t 67), none⟩,
                        ⟨(some 69), .load none (.t 68), none⟩,
                        ⟨(some 70), .bin .eql (.t 65) (.t 69), none⟩])
                     (.cond (.t 70) (.reg [⟨(some 71), .mv (.t 8), none⟩,
                         ⟨(some 72), .faddr 1 (.t 12), none⟩,
                         ⟨(some 73), .load none (.t 72), none⟩,
                         ⟨(some 74), .bin .add (.t 71) (.t 73), none⟩,
                         ⟨(some 8), .mv (.t 74), none⟩]) (.skip)))) (.skip))))))
              (.reg [⟨(some 75), .bin .add (.t 39) (.c (.int .i64 1)), none⟩,
                 ⟨(some 39), .mv (.t 75), none⟩])))))))
        (.seq (.reg [⟨(some 76), .mv (.t 8), none⟩,
            ⟨(some 77), .mv (.t 9), none⟩,
            ⟨(some 78), .mv (.t 10), none⟩,
            ⟨(some 79), .lenM (.t 78), none⟩,
            ⟨(some 80), .bin .add (.t 77) (.t 79), none⟩,
            ⟨(some 81), .call (.f 49) [(.t 76), (.t 80)], none⟩,
            ⟨none, .store 2 (.t 4) (.t 81), none⟩,
            ⟨(some 5), .mv (.c (.int .i64 0)), none⟩])
         (.ret))))))))
theorem s32_ok : lookF Try.prog 32 = some (s32, 82, [.cell 4 (some 2), .tmp 5]) := by kernel_rfl
set_option maxHeartbeats 1000000 in
theorem tSmooth_ok (l : List Gram) (w : List Str) (hs : ∀ g ∈ l, g.1.length ≤ 8796093022208) (hw : w.length ≤ 8796093022208) : Fn P 32 [sl l, sl w] (.tup [smoothV l w, intA (smoothE l w)]) := by
  have c0 := tGramsF_ok l hs
  by_cases hg : givenF l = 0
  · have hgood := good_of hg
    rw [hg] at c0
    have hlen := hgood.len
    by_cases h0 : l.length = 0
    · have e1 : smoothE l w = 1 := by rw [smoothE, if_neg (by omega), if_pos (.inl h0)]
      have e2 : smoothV l w = frA 0 0 := by rw [smoothV, if_neg (by omega)]
      rw [e1, e2]
      (refine fn_look s32_ok (by simp) (by intro k; simp only [go_sem, Nat.reduceEqDiff, ↓reduceIte, reduceCtorEq, Nat.reduceAdd, Nat.reduceMul, Int.reduceToNat, List.reduceReplicate, Nat.reduceLeDiff, Nat.reduceLT, Int.reduceLT, Int.reduceLE, Int.reduceEq]) fun S hS => cwp_sound _ _ _ _ ?_; simp (disch := omega) only [s32, go_sem, Nat.reduceEqDiff, ↓reduceIte, reduceCtorEq, Nat.reduceAdd, Nat.reduceMul, Int.reduceToNat, List.reduceReplicate, Nat.reduceLeDiff, Nat.reduceLT, Int.reduceLT, Int.reduceLE, Int.reduceEq])
      repeat' (first | (with_reducible refine in_seq ?_) | (with_reducible refine in_reg ?_) | (with_reducible refine in_block ?_) | (with_reducible refine in_cond ?_) | (with_reducible refine in_ret ?_) | (with_reducible refine in_skip ?_) | (simp (disch := omega) only [go_sem, Nat.reduceEqDiff, ↓reduceIte, reduceCtorEq, Nat.reduceAdd, Nat.reduceMul, Int.reduceToNat, List.reduceReplicate, Nat.reduceLeDiff, Nat.reduceLT, Int.reduceLT, Int.reduceLE, Int.reduceEq]) | (with_reducible refine giv_intro fun _h => ?_) | (with_reducible refine alt_intro ?_ (fun _h => ?_)) | ((first | with_reducible refine br_dec (fun _h => ?_) (fun _h => ?_) | with_reducible refine br_ndec (fun _h => ?_) (fun _h => ?_)) <;> (first | (exfalso; omega) | simp only [decide_eq_false _h] | simp only [decide_eq_true _h] | skip)) | ((first | with_reducible refine br_not (fun _h => ?_) (fun _h => ?_) | with_reducible refine br_var (fun _h => ?_) (fun _h => ?_)) <;> (try simp only [_h])) | ((with_reducible apply call (c0)); (focus (simp (disch := omega) only [go_sem, Nat.reduceEqDiff, ↓reduceIte, reduceCtorEq, Nat.reduceAdd, Nat.reduceMul, Int.reduceToNat, List.reduceReplicate, Nat.reduceLeDiff, Nat.reduceLT, Int.reduceLT, Int.reduceLE, Int.reduceEq]; (try rfl); done))) | fail)
    · have h1 := hgood.ws 0 (by omega)
      have ez : (List.head? (cellsL l)) = some (sl (nth l 0).1) := by
        cases l with
        | nil => simp at h0
        | cons g l => rfl
      by_cases hwl : w.length = (nth l 0).1.length
      · have e1 : smoothE l w = 0 := by rw [smoothE, if_neg (by omega), if_neg (by omega)]
        have e2 : smoothV l w = frA ((smoothX l w / Nat.gcd (smoothX l w) (smoothY l w) : Nat) : Int) ((smoothY l w / Nat.gcd (smoothX l w) (smoothY l w) : Nat) : Int) := by rw [smoothV, if_pos e1]
        rw [e1, e2]
        have ew : ((w.length : Int) - 1).toNat = w.length - 1 := by omega
        (refine fn_look s32_ok (by simp) (by intro k; simp only [go_sem, Nat.reduceEqDiff, ↓reduceIte, reduceCtorEq, Nat.reduceAdd, Nat.reduceMul, Int.reduceToNat, List.reduceReplicate, Nat.reduceLeDiff, Nat.reduceLT, Int.reduceLT, Int.reduceLE, Int.reduceEq]) fun S hS => cwp_sound _ _ _ _ ?_; simp (disch := omega) only [s32, go_sem, Nat.reduceEqDiff, ↓reduceIte, reduceCtorEq, Nat.reduceAdd, Nat.reduceMul, Int.reduceToNat, List.reduceReplicate, Nat.reduceLeDiff, Nat.reduceLT, Int.reduceLT, Int.reduceLE, Int.reduceEq])
        repeat' (first | (with_reducible refine in_seq ?_) | (with_reducible refine in_reg ?_) | (with_reducible refine in_block ?_) | (with_reducible refine in_cond ?_) | (with_reducible refine in_ret ?_) | (with_reducible refine in_skip ?_) | (simp (disch := omega) only [go_sem, Nat.reduceEqDiff, ↓reduceIte, reduceCtorEq, Nat.reduceAdd, Nat.reduceMul, Int.reduceToNat, List.reduceReplicate, Nat.reduceLeDiff, Nat.reduceLT, Int.reduceLT, Int.reduceLE, Int.reduceEq, ez]) | (with_reducible refine giv_intro fun _h => ?_) | (with_reducible refine alt_intro ?_ (fun _h => ?_)) | ((first | with_reducible refine br_dec (fun _h => ?_) (fun _h => ?_) | with_reducible refine br_ndec (fun _h => ?_) (fun _h => ?_)) <;> (first | (exfalso; omega) | simp only [decide_eq_false _h] | simp only [decide_eq_true _h] | skip)) | ((first | with_reducible refine br_not (fun _h => ?_) (fun _h => ?_) | with_reducible refine br_var (fun _h => ?_) (fun _h => ?_)) <;> (try simp only [_h])) | ((with_reducible apply call (c0)); (focus (simp (disch := omega) only [go_sem, Nat.reduceEqDiff, ↓reduceIte, reduceCtorEq, Nat.reduceAdd, Nat.reduceMul, Int.reduceToNat, List.reduceReplicate, Nat.reduceLeDiff, Nat.reduceLT, Int.reduceLT, Int.reduceLE, Int.reduceEq, ez]; (try rfl); done))) | fail)
        (refine loopC hS [1, 4, 7, 10, 37, 38] (by simp only [go_sem, Nat.reduceEqDiff, ↓reduceIte, reduceCtorEq, Nat.reduceAdd, Nat.reduceMul, Int.reduceToNat, List.reduceReplicate, Nat.reduceLeDiff, Nat.reduceLT, Int.reduceLT, Int.reduceLE, Int.reduceEq]; try rfl) (fun (⟨i, m⟩ : Nat × List (Str × Bool)) => [(8, intA ((1 + sumP (fun g => preG w g && hitG w g) (l.take i) : Nat) : Int)), (9, intA ((sumP (preG w) (l.take i) : Nat) : Int)), (39, intA i)]) (fun (⟨i, m⟩ : Nat × List (Str × Bool)) => [some (.row 27 2 [intA 0, intA 0]), mpO m]) (fun (⟨i, m⟩ : Nat × List (Str × Bool)) => i ≤ l.length ∧ MapOk m (lastsG w (l.take i))) (fun (⟨i, m⟩ : Nat × List (Str × Bool)) => l.length - i) ((0, [])) ?h02 ?hn2 ?rd2; case hn2 => (intro s; first | rfl | (rcases s with ⟨_, _⟩; rfl) | (rcases s with ⟨_, _, _⟩; rfl) | (rcases s with ⟨_, _, _, _⟩; rfl) | (rcases s with ⟨_, _, _, _, _⟩; rfl)))
        · simp (disch := omega) only [go_sem, Nat.reduceEqDiff, ↓reduceIte, reduceCtorEq, Nat.reduceAdd, Nat.reduceMul, Int.reduceToNat, List.reduceReplicate, Nat.reduceLeDiff, Nat.reduceLT, Int.reduceLT, Int.reduceLE, Int.reduceEq]
          exact ⟨⟨Nat.zero_le _, ⟨by simp [keysM], by simp [keysM, lastsG]⟩⟩, by simp [sumP]⟩
        · rintro ⟨i, m⟩ ⟨hi, hm⟩
          replace hi : i ≤ l.length := hi
          replace hm : MapOk m (lastsG w (l.take i)) := hm
          have b1 := sumP_le (fun g => preG w g && hitG w g) (l.take i) (hgood.many i)
          have b2 := sumP_le (preG w) (l.take i) (hgood.many i)
          have b3 : (l.take i).length = i := by simp; omega
          have b4 : (lastsG w (l.take i)).length = i := by simp [lastsG]; omega
          rw [b3] at b1 b2
          by_cases hil : i < l.length
          · have g1 := hgood.ws i hil
            have c1 := slEqual_ok ((nth l i).1.take (w.length - 1)) (w.take (w.length - 1)) (by simp; omega) (by simp; omega)
            have ew2 : (IntKind.i64.wrap ((w.length : Int) - 1)).toNat = w.length - 1 := by rw [wrap_nat (by omega)]; exact ew
            repeat' (first | (with_reducible refine in_seq ?_) | (with_reducible refine in_reg ?_) | (with_reducible refine in_block ?_) | (with_reducible refine in_cond ?_) | (with_reducible refine in_ret ?_) | (with_reducible refine in_skip ?_) | (simp (disch := omega) only [go_sem, Nat.reduceEqDiff, ↓reduceIte, reduceCtorEq, Nat.reduceAdd, Nat.reduceMul, Int.reduceToNat, List.reduceReplicate, Nat.reduceLeDiff, Nat.reduceLT, Int.reduceLT, Int.reduceLE, Int.reduceEq, ew, ew2, b4]) | (with_reducible refine giv_intro fun _h => ?_) | (with_reducible refine alt_intro ?_ (fun _h => ?_)) | ((first | with_reducible refine br_dec (fun _h => ?_) (fun _h => ?_) | with_reducible refine br_ndec (fun _h => ?_) (fun _h => ?_)) <;> (first | (exfalso; omega) | simp only [decide_eq_false _h] | simp only [decide_eq_true _h] | skip)) | ((first | with_reducible refine br_not (fun _h => ?_) (fun _h => ?_) | with_reducible refine br_var (fun _h => ?_) (fun _h => ?_)) <;> (try simp only [_h])) | ((with_reducible apply call_D (c1)); (focus (simp (disch := omega) only [go_sem, Nat.reduceEqDiff, ↓reduceIte, reduceCtorEq, Nat.reduceAdd, Nat.reduceMul, Int.reduceToNat, List.reduceReplicate, Nat.reduceLeDiff, Nat.reduceLT, Int.reduceLT, Int.reduceLE, Int.reduceEq, ew, ew2, b4]; (try rfl); done))) | fail)
            all_goals
              refine ⟨(i + 1, putM m (nth (nth l i).1 (w.length - 1)) true), ?_⟩
              dsimp only
              have hp : preG w (nth l i) = decide (List.take (w.length - 1) (nth l i).1 = List.take (w.length - 1) w) := rfl
              have hh : hitG w (nth l i) = decide (nth (nth l i).1 (w.length - 1) = nth w (w.length - 1)) := rfl
              refine ⟨⟨by omega, by omega, by rw [lastsG_step w hil]; exact hm.step _⟩, ?_, rfl⟩
              rw [sumP_step _ hil, sumP_step _ hil]
              simp only [hp, hh, Bool.and_eq_true, decide_eq_true_eq]
              first
                | (rw [if_pos ⟨by assumption, by assumption⟩, if_pos (by assumption)]; omega)
                | (rw [if_neg (fun h => absurd h.2 (by assumption)), if_pos (by assumption)]; omega)
                | (rw [if_neg (fun h => absurd h.1 (by assumption)), if_neg (by assumption)]; omega)
          · have b5 := setL_len (lastsG w (l.take i))
            have b6 := hm.len
            have hl2 : l.take i = l := List.take_of_length_le (by omega)
            have c3 := share_ok (1 + sumP (fun g => preG w g && hitG w g) (l.take i)) (sumP (preG w) (l.take i) + (setL (lastsG w (l.take i))).length) (Nat.gcd_pos_of_pos_left _ (by omega)) (by omega) (by omega)
            have ec : ((sumP (preG w) (l.take i) : Nat) : Int) + ((setL (lastsG w (l.take i))).length : Int) = ((sumP (preG w) (l.take i) + (setL (lastsG w (l.take i))).length : Nat) : Int) := by omega
            repeat' (first | (with_reducible refine in_seq ?_) | (with_reducible refine in_reg ?_) | (with_reducible refine in_block ?_) | (with_reducible refine in_cond ?_) | (with_reducible refine in_ret ?_) | (with_reducible refine in_skip ?_) | (simp (disch := omega) only [go_sem, Nat.reduceEqDiff, ↓reduceIte, reduceCtorEq, Nat.reduceAdd, Nat.reduceMul, Int.reduceToNat, List.reduceReplicate, Nat.reduceLeDiff, Nat.reduceLT, Int.reduceLT, Int.reduceLE, Int.reduceEq, ec, b6]) | (with_reducible refine giv_intro fun _h => ?_) | (with_reducible refine alt_intro ?_ (fun _h => ?_)) | ((first | with_reducible refine br_dec (fun _h => ?_) (fun _h => ?_) | with_reducible refine br_ndec (fun _h => ?_) (fun _h => ?_)) <;> (first | (exfalso; omega) | simp only [decide_eq_false _h] | simp only [decide_eq_true _h] | skip)) | ((first | with_reducible refine br_not (fun _h => ?_) (fun _h => ?_) | with_reducible refine br_var (fun _h => ?_) (fun _h => ?_)) <;> (try simp only [_h])) | ((with_reducible apply call (c3)); (focus (simp (disch := omega) only [go_sem, Nat.reduceEqDiff, ↓reduceIte, reduceCtorEq, Nat.reduceAdd, Nat.reduceMul, Int.reduceToNat, List.reduceReplicate, Nat.reduceLeDiff, Nat.reduceLT, Int.reduceLT, Int.reduceLE, Int.reduceEq, ec, b6]; (try rfl); done))) | fail)
            rw [hl2]; rfl
      · have e1 : smoothE l w = 1 := by rw [smoothE, if_neg (by omega), if_pos (.inr hwl)]
        have e2 : smoothV l w = frA 0 0 := by rw [smoothV, if_neg (by omega)]
        rw [e1, e2]
        (refine fn_look s32_ok (by simp) (by intro k; simp only [go_sem, Nat.reduceEqDiff, ↓reduceIte, reduceCtorEq, Nat.reduceAdd, Nat.reduceMul, Int.reduceToNat, List.reduceReplicate, Nat.reduceLeDiff, Nat.reduceLT, Int.reduceLT, Int.reduceLE, Int.reduceEq]) fun S hS => cwp_sound _ _ _ _ ?_; simp (disch := omega) only [s32, go_sem, Nat.reduceEqDiff, ↓reduceIte, reduceCtorEq, Nat.reduceAdd, Nat.reduceMul, Int.reduceToNat, List.reduceReplicate, Nat.reduceLeDiff, Nat.reduceLT, Int.reduceLT, Int.reduceLE, Int.reduceEq])
        repeat' (first | (with_reducible refine in_seq ?_) | (with_reducible refine in_reg ?_) | (with_reducible refine in_block ?_) | (with_reducible refine in_cond ?_) | (with_reducible refine in_ret ?_) | (with_reducible refine in_skip ?_) | (simp (disch := omega) only [go_sem, Nat.reduceEqDiff, ↓reduceIte, reduceCtorEq, Nat.reduceAdd, Nat.reduceMul, Int.reduceToNat, List.reduceReplicate, Nat.reduceLeDiff, Nat.reduceLT, Int.reduceLT, Int.reduceLE, Int.reduceEq, ez]) | (with_reducible refine giv_intro fun _h => ?_) | (with_reducible refine alt_intro ?_ (fun _h => ?_)) | ((first | with_reducible refine br_dec (fun _h => ?_) (fun _h => ?_) | with_reducible refine br_ndec (fun _h => ?_) (fun _h => ?_)) <;> (first | (exfalso; omega) | simp only [decide_eq_false _h] | simp only [decide_eq_true _h] | skip)) | ((first | with_reducible refine br_not (fun _h => ?_) (fun _h => ?_) | with_reducible refine br_var (fun _h => ?_) (fun _h => ?_)) <;> (try simp only [_h])) | ((with_reducible apply call (c0)); (focus (simp (disch := omega) only [go_sem, Nat.reduceEqDiff, ↓reduceIte, reduceCtorEq, Nat.reduceAdd, Nat.reduceMul, Int.reduceToNat, List.reduceReplicate, Nat.reduceLeDiff, Nat.reduceLT, Int.reduceLT, Int.reduceLE, Int.reduceEq, ez]; (try rfl); done))) | fail)
  · have e1 : smoothE l w = givenF l := by rw [smoothE, if_pos hg]
    have e2 : smoothV l w = frA 0 0 := by rw [smoothV, if_neg (by omega)]
    rw [e1, e2]
    (refine fn_look s32_ok (by simp) (by intro k; simp only [go_sem, Nat.reduceEqDiff, ↓reduceIte, reduceCtorEq, Nat.reduceAdd, Nat.reduceMul, Int.reduceToNat, List.reduceReplicate, Nat.reduceLeDiff, Nat.reduceLT, Int.reduceLT, Int.reduceLE, Int.reduceEq]) fun S hS => cwp_sound _ _ _ _ ?_; simp (disch := omega) only [s32, go_sem, Nat.reduceEqDiff, ↓reduceIte, reduceCtorEq, Nat.reduceAdd, Nat.reduceMul, Int.reduceToNat, List.reduceReplicate, Nat.reduceLeDiff, Nat.reduceLT, Int.reduceLT, Int.reduceLE, Int.reduceEq])
    repeat' (first | (with_reducible refine in_seq ?_) | (with_reducible refine in_reg ?_) | (with_reducible refine in_block ?_) | (with_reducible refine in_cond ?_) | (with_reducible refine in_ret ?_) | (with_reducible refine in_skip ?_) | (simp (disch := omega) only [go_sem, Nat.reduceEqDiff, ↓reduceIte, reduceCtorEq, Nat.reduceAdd, Nat.reduceMul, Int.reduceToNat, List.reduceReplicate, Nat.reduceLeDiff, Nat.reduceLT, Int.reduceLT, Int.reduceLE, Int.reduceEq]) | (with_reducible refine giv_intro fun _h => ?_) | (with_reducible refine alt_intro ?_ (fun _h => ?_)) | ((first | with_reducible refine br_dec (fun _h => ?_) (fun _h => ?_) | with_reducible refine br_ndec (fun _h => ?_) (fun _h => ?_)) <;> (first | (exfalso; omega) | simp only [decide_eq_false _h] | simp only [decide_eq_true _h] | skip)) | ((first | with_reducible refine br_not (fun _h => ?_) (fun _h => ?_) | with_reducible refine br_var (fun _h => ?_) (fun _h => ?_)) <;> (try simp only [_h])) | ((with_reducible apply call (c0)); (focus (simp (disch := omega) only [go_sem, Nat.reduceEqDiff, ↓reduceIte, reduceCtorEq, Nat.reduceAdd, Nat.reduceMul, Int.reduceToNat, List.reduceReplicate, Nat.reduceLeDiff, Nat.reduceLT, Int.reduceLT, Int.reduceLE, Int.reduceEq]; (try rfl); done))) | fail)
end Go.Proofs.Ytedbjmonfbpefaa.Ev

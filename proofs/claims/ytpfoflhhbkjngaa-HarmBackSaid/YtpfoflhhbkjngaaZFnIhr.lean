/- Whether there is a word of which harmony makes one: the program. -/
import Derived.Test.YtpfoflhhbkjngaaZFnIn
set_option linter.unusedVariables false
set_option linter.unusedSimpArgs false
namespace Go.Proofs.Ytpfoflhhbkjngaa.Ev
open Go Go.Proofs
theorem reached_caps (m : List (Str × Sound)) (l : List Arch) (y : Str) (c : Nat) : ∀ x ∈ [AV.rop [sungA m c], .rop [sl l], .rop [strA y]], AV.Still x := by
  have h1 : AV.Still (romA m) := ⟨fun k => by rw [bel_rom, bels_romV]; trivial, fun D S d => n_rom D S d _ _, rfl⟩
  have h2 : AV.Still (intA (c : Int)) := ⟨fun k => by simp only [AV.bel], fun D S d => by cases d <;> rfl, rfl⟩
  have h3 : AV.Still (strA y) := ⟨fun k => by simp only [AV.bel], fun D S d => by cases d <;> rfl, rfl⟩
  intro x hx
  simp only [List.mem_cons, List.not_mem_nil, or_false] at hx
  rcases hx with rfl | rfl | rfl
  · refine rop_still fun q hq => ?_
    rw [List.mem_singleton] at hq; subst hq
    refine rop_still fun q hq => ?_
    simp only [List.mem_cons, List.not_mem_nil, or_false] at hq
    rcases hq with rfl | rfl
    · exact h1
    · exact h2
  · refine rop_still fun q hq => ?_
    rw [List.mem_singleton] at hq; subst hq
    exact sl_still l
  · refine rop_still fun q hq => ?_
    rw [List.mem_singleton] at hq; subst hq
    exact h3
/-- ablaut/harm.reached: 3 parameters, 0 captured -/
def s101 : SC := .seq (.reg [o1 3 (.box 37 1 (.t 0)),
   o1 4 (.box 63 1 (.t 1)),
   o1 6 (.mv (cB false))])
  (.seq (.reg [o1 10 (.load (some 1) (.t 3)),
    o1 11 (.call (.f 63) [(.t 10)]),
    o1 12 (.build [(.map none), (.int .i64 0)] [(0, 1, (.t 11))]),
    o1 13 (.box 114 2 (.t 12)),
    o1 7 (.alloc 112 1 [(.pointer none)]),
    o0 (.store 1 (.t 7) (.t 13))])
   (.seq (.seq (.reg [o1 14 (.mv (.t 2)),
      o1 15 (.lenL (.t 14)),
      o1 16 (.mv (cI 0))])
     (.block 0 (.loop (.seq (.reg [o1 17 (.bin .lss (.t 16) (.t 15))])
        (.seq (.cond (.t 17) (.skip) (.exit 0))
         (.seq (.block 1 (.seq (.reg [o1 18 (.iaddr 1 (.t 14) (.t 16)),
             o1 19 (.load none (.t 18)),
             o1 9 (.alloc 9 1 [(.string ⟨#[]⟩)]),
             o0 (.store 1 (.t 9) (.t 19))])
            (.seq (.seq (.regL [(false, true, o1 20 (.load none (.t 9))),
               (false, true, o1 22 (.load none (.t 4))),
               (false, true, o1 23 (.call (.f 100) [(.t 22)])),
               (false, true, o1 25 (.mkfunc 135 [(.t 7), (.t 4), (.t 9)])),
               (true, true, o1 21 (.buildSl 9 1 1 [(.string ⟨#[]⟩)] [(0, 1, (.t 20))])),
               (false, true, o1 24 (.app 9 1 16 (.t 21) (.t 23))),
               (false, false, o1 26 (.call (.f 134) [(.t 24), (.t 25)])),
               (false, false, o1 27 (.un .not (.t 26)))])
              (.cond (.t 27) (.seq (.reg [o1 6 (.mv (cB false))])
                (.ret)) (.skip)))
             (.reg [o1 28 (.load none (.t 7)),
              o1 29 (.load none (.t 9)),
              o1 30 (.call (.f 97) [(.t 28), (.t 29)])]))))
          (.reg [o1 31 (.bin .add (.t 16) (cI 1)),
           o1 16 (.mv (.t 31))])))))))
    (.seq (.reg [o1 6 (.mv (cB true))])
     (.ret))))
theorem s101_ok : lookF Try.prog 101 = some (s101, 32, [.tmp 6]) := by kernel_rfl
set_option maxHeartbeats 1000000 in
theorem reached_ok (s : List Sound) (l : List Arch) (w : List Str) (h1 : sndErr s = 0) (hll : l.length ≤ 24) (hsh : ∀ a ∈ l, ∀ w ∈ a.2, w.length ≤ 1) : Fn P 101 [sndA s, sl l, sl w] (boolA (reachS s l w 0)) := by
  have hcl := fun x => (snd_cls h1 x).2
  have c1 := of_ok s
  have ev := vowM_of h1
  have ec := clsM_of h1
  have c2 := heads_ok l (by omega)
  generalize ofM s = m at *
  (refine fn_look s101_ok (by simp) (by intro k; simp only [go_sem, Nat.reduceEqDiff, ↓reduceIte, reduceCtorEq, Nat.reduceAdd, Nat.reduceMul, Int.reduceToNat, List.reduceReplicate, Nat.reduceLeDiff, Nat.reduceLT, Int.reduceLT, Int.reduceLE, Int.reduceEq]) fun S hS => cwp_sound _ _ _ _ ?_; simp (maxSteps := 900000) (disch := omega) only [s101, go_sem, Nat.reduceEqDiff, ↓reduceIte, reduceCtorEq, Nat.reduceAdd, Nat.reduceMul, Int.reduceToNat, List.reduceReplicate, Nat.reduceLeDiff, Nat.reduceLT, Int.reduceLT, Int.reduceLE, Int.reduceEq])
  repeat' (first | with_reducible refine inw ?_ | simp (maxSteps := 900000) (disch := omega) only [go_sem, Nat.reduceEqDiff, ↓reduceIte, reduceCtorEq, Nat.reduceAdd, Nat.reduceMul, Int.reduceToNat, List.reduceReplicate, Nat.reduceLeDiff, Nat.reduceLT, Int.reduceLT, Int.reduceLE, Int.reduceEq] | (with_reducible apply call (c1)); (focus simp (maxSteps := 900000) (disch := omega) only [go_sem, Nat.reduceEqDiff, ↓reduceIte, reduceCtorEq, Nat.reduceAdd, Nat.reduceMul, Int.reduceToNat, List.reduceReplicate, Nat.reduceLeDiff, Nat.reduceLT, Int.reduceLT, Int.reduceLE, Int.reduceEq] <;> rfl) | with_reducible refine pickB_f ?_ | with_reducible refine giv_intro fun _h => ?_ | with_reducible refine alt_intro ?_ fun _h => ?_ | with_reducible refine pickD_nil ?_ | (with_reducible refine brc (fun _h => ?_) fun _h => ?_) <;> first | (exfalso; omega) | simp only [decide_eq_false _h] | simp only [(_h : (_ : Bool) = _)] | simp only [decide_eq_true _h] | skip)
  (refine loopC hS [4, 7, 14, 15] (by simp only [go_sem, Nat.reduceEqDiff, ↓reduceIte, reduceCtorEq, Nat.reduceAdd, Nat.reduceMul, Int.reduceToNat, List.reduceReplicate, Nat.reduceLeDiff, Nat.reduceLT, Int.reduceLT, Int.reduceLE, Int.reduceEq]; try rfl) (fun (i : Nat) => [(16, intA i)]) (fun (i : Nat) => [some (.row 37 1 [sl s]), some (.row 63 1 [sl l]), some (.row 114 2 [romA m, intA (clsT s (w.take i) 0)]), some (.row 112 1 [.ptr (S.nm 2) 2 0])]) (fun (i : Nat) => i ≤ w.length ∧ reachS s l w 0 = reachS s l (w.drop i) (clsT s (w.take i) 0)) (fun (i : Nat) => w.length - i) (0) ?_ (by intro s; first | (simp only [List.length_cons, List.length_nil]; done) | rfl | (rcases s with ⟨_, _⟩; rfl) | (rcases s with ⟨_, _, _⟩; rfl) | (rcases s with ⟨_, _, _, _⟩; rfl) | (rcases s with ⟨_, _, _, _, _⟩; rfl)) ?_)
  · simp (maxSteps := 900000) (disch := omega) only [go_sem, Nat.reduceEqDiff, ↓reduceIte, reduceCtorEq, Nat.reduceAdd, Nat.reduceMul, Int.reduceToNat, List.reduceReplicate, Nat.reduceLeDiff, Nat.reduceLT, Int.reduceLT, Int.reduceLE, Int.reduceEq]
    exact ⟨⟨Nat.zero_le _, rfl⟩, rfl⟩
  rintro i ⟨hi, hI⟩
  replace hi : i ≤ w.length := hi
  replace hI : reachS s l w 0 = reachS s l (w.drop i) (clsT s (w.take i) 0) := hI
  by_cases hil : i < w.length
  · rw [nth_drop hil, reachS] at hI
    have hcb := clsT_le hcl (w.take i) 0 (by omega)
    have hcs : clsT s (w.take (i + 1)) 0 = aftT s (nth w i) (clsT s (w.take i) 0) := by rw [List.take_add_one, nth_get? hil]; exact clsT_snoc s _ _ 0
    rw [← hcs] at hI
    generalize hk : clsT s (w.take i) 0 = k at *
    have c3 := ContainsFunc_ok (nth w i :: l.map (·.1)) (fun x => decide (wrT l x k = nth w i)) 135 [.rop [sungA m k], .rop [sl l], .rop [strA (nth w i)]] (reached_caps m l (nth w i) k) (fun x _ => reached1_ok m l x (nth w i) k (by omega) hsh)
    rw [show (nth w i :: l.map (·.1)).any (fun x => decide (wrT l x k = nth w i)) = anyT l (nth w i) k from rfl] at c3
    have z1 : zcells [Value.string ⟨#[]⟩] 1 = [strA ⟨#[]⟩] := rfl
    have hX : strA (nth w i) :: cellsL (l.map (·.1)) = cellsL (nth w i :: l.map (·.1)) := rfl
    have hXl : (nth w i :: l.map (·.1)).length = 1 + l.length := by rw [List.length_cons, List.length_map, Nat.add_comm]
    generalize nth w i :: l.map (·.1) = X at *
    have ey : vowR s (nth w i) = ((getM m (nth w i)).getD (⟨#[]⟩, 0, false, 0)).2.2.1 := by rw [← ev]; rfl
    have ez : clsR s (nth w i) = ((getM m (nth w i)).getD (⟨#[]⟩, 0, false, 0)).2.2.2 := by rw [← ec]; rfl
    have hyc := (snd_cls h1 (nth w i)).1
    have hA : vowR s (nth w i) = true ∧ 0 < clsR s (nth w i) → aftT s (nth w i) k = (clsR s (nth w i)).toNat := fun h => by rw [aftT, if_pos h]
    have hB : ¬(vowR s (nth w i) = true ∧ 0 < clsR s (nth w i)) → aftT s (nth w i) k = k := fun h => by rw [aftT, if_neg h]
    rw [ey, ez] at hA hB
    rw [ez] at hyc
    clear ey ez
    cases ha : anyT l (nth w i) k
    · rw [ha] at c3
      rw [hI, ha]
      repeat' (first | with_reducible refine inw ?_ | simp (maxSteps := 900000) (disch := omega) only [go_sem, Nat.reduceEqDiff, ↓reduceIte, reduceCtorEq, Nat.reduceAdd, Nat.reduceMul, Int.reduceToNat, List.reduceReplicate, Nat.reduceLeDiff, Nat.reduceLT, Int.reduceLT, Int.reduceLE, Int.reduceEq, zS, z1, hX, hXl] | (with_reducible apply call_D (c2)); (focus simp (maxSteps := 900000) (disch := omega) only [go_sem, Nat.reduceEqDiff, ↓reduceIte, reduceCtorEq, Nat.reduceAdd, Nat.reduceMul, Int.reduceToNat, List.reduceReplicate, Nat.reduceLeDiff, Nat.reduceLT, Int.reduceLT, Int.reduceLE, Int.reduceEq, zS, z1, hX, hXl] <;> rfl) | (with_reducible apply callD_lend (c3)); (focus simp (maxSteps := 900000) (disch := omega) only [go_sem, Nat.reduceEqDiff, ↓reduceIte, reduceCtorEq, Nat.reduceAdd, Nat.reduceMul, Int.reduceToNat, List.reduceReplicate, Nat.reduceLeDiff, Nat.reduceLT, Int.reduceLT, Int.reduceLE, Int.reduceEq, zS, z1, hX, hXl] <;> rfl); (focus rfl) | (with_reducible refine callI s97_ok (by simp) hS (cwp_sound _ _ _ _ ?_)); simp (maxSteps := 900000) (disch := omega) only [s97, go_sem, Nat.reduceEqDiff, ↓reduceIte, reduceCtorEq, Nat.reduceAdd, Nat.reduceMul, Int.reduceToNat, List.reduceReplicate, Nat.reduceLeDiff, Nat.reduceLT, Int.reduceLT, Int.reduceLE, Int.reduceEq, zS, z1, hX, hXl] | with_reducible refine pickB_f ?_ | with_reducible refine giv_intro fun _h => ?_ | with_reducible refine alt_intro ?_ fun _h => ?_ | with_reducible refine pickD_nil ?_ | (with_reducible refine brc (fun _h => ?_) fun _h => ?_) <;> first | (exfalso; omega) | simp only [decide_eq_false _h] | simp only [(_h : (_ : Bool) = _)] | simp only [decide_eq_true _h] | skip)
      all_goals rfl
    · rw [ha] at c3
      rw [ha, Bool.true_and] at hI
      repeat' (first | with_reducible refine inw ?_ | simp (maxSteps := 900000) (disch := omega) only [go_sem, Nat.reduceEqDiff, ↓reduceIte, reduceCtorEq, Nat.reduceAdd, Nat.reduceMul, Int.reduceToNat, List.reduceReplicate, Nat.reduceLeDiff, Nat.reduceLT, Int.reduceLT, Int.reduceLE, Int.reduceEq, zS, z1, hX, hXl] | (with_reducible apply call_D (c2)); (focus simp (maxSteps := 900000) (disch := omega) only [go_sem, Nat.reduceEqDiff, ↓reduceIte, reduceCtorEq, Nat.reduceAdd, Nat.reduceMul, Int.reduceToNat, List.reduceReplicate, Nat.reduceLeDiff, Nat.reduceLT, Int.reduceLT, Int.reduceLE, Int.reduceEq, zS, z1, hX, hXl] <;> rfl) | (with_reducible apply callD_lend (c3)); (focus simp (maxSteps := 900000) (disch := omega) only [go_sem, Nat.reduceEqDiff, ↓reduceIte, reduceCtorEq, Nat.reduceAdd, Nat.reduceMul, Int.reduceToNat, List.reduceReplicate, Nat.reduceLeDiff, Nat.reduceLT, Int.reduceLT, Int.reduceLE, Int.reduceEq, zS, z1, hX, hXl] <;> rfl); (focus rfl) | (with_reducible refine callI s97_ok (by simp) hS (cwp_sound _ _ _ _ ?_)); simp (maxSteps := 900000) (disch := omega) only [s97, go_sem, Nat.reduceEqDiff, ↓reduceIte, reduceCtorEq, Nat.reduceAdd, Nat.reduceMul, Int.reduceToNat, List.reduceReplicate, Nat.reduceLeDiff, Nat.reduceLT, Int.reduceLT, Int.reduceLE, Int.reduceEq, zS, z1, hX, hXl] | with_reducible refine pickB_f ?_ | with_reducible refine giv_intro fun _h => ?_ | with_reducible refine alt_intro ?_ fun _h => ?_ | with_reducible refine pickD_nil ?_ | (with_reducible refine brc (fun _h => ?_) fun _h => ?_) <;> first | (exfalso; omega) | simp only [decide_eq_false _h] | simp only [(_h : (_ : Bool) = _)] | simp only [decide_eq_true _h] | skip)
      all_goals
        refine ⟨i + 1, ⟨by omega, by omega, hI⟩, by omega, ?_⟩
        rw [hcs]
        generalize (getM m (nth w i)).getD (⟨#[]⟩, 0, false, 0) = r at *
        first
          | (rw [hA ⟨by assumption, by assumption⟩, Int.toNat_of_nonneg hyc]; done)
          | (rw [hB fun h => by rcases h with ⟨q1, q2⟩; first | omega | (rw [q1] at _h; cases _h)]; done)
  · rw [hI, drop_end (by omega), reachS]
    repeat' (first | with_reducible refine inw ?_ | simp (maxSteps := 900000) (disch := omega) only [go_sem, Nat.reduceEqDiff, ↓reduceIte, reduceCtorEq, Nat.reduceAdd, Nat.reduceMul, Int.reduceToNat, List.reduceReplicate, Nat.reduceLeDiff, Nat.reduceLT, Int.reduceLT, Int.reduceLE, Int.reduceEq] | with_reducible refine pickB_f ?_ | with_reducible refine giv_intro fun _h => ?_ | with_reducible refine alt_intro ?_ fun _h => ?_ | with_reducible refine pickD_nil ?_ | (with_reducible refine brc (fun _h => ?_) fun _h => ?_) <;> first | (exfalso; omega) | simp only [decide_eq_false _h] | simp only [(_h : (_ : Bool) = _)] | simp only [decide_eq_true _h] | skip)
end Go.Proofs.Ytpfoflhhbkjngaa.Ev

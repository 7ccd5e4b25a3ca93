/- Choosing some of many; fractions in least terms. -/
import Derived.Test.YtedbjmonfbpefaaZEvS
import Derived.Test.YtedbjmonfbpefaaProg
import Derived.KernelRfl
set_option linter.unusedVariables false
set_option linter.unusedSimpArgs false
namespace Go.Proofs.Ytedbjmonfbpefaa.Ev
open Go Go.Proofs
noncomputable abbrev P : Program := Try.prog
abbrev Str := ByteArray

/-- In how many ways k of n are chosen. -/
def bin : Nat → Nat → Nat
  | _, 0 => 1
  | 0, _ + 1 => 0
  | n + 1, k + 1 => bin n k + bin n (k + 1)
theorem bin_zero (n : Nat) : bin n 0 = 1 := by cases n <;> rfl
theorem bin_gt : ∀ (n k : Nat), n < k → bin n k = 0
  | 0, 0, h => by omega
  | 0, k + 1, h => rfl
  | n + 1, 0, h => by omega
  | n + 1, k + 1, h => by rw [bin, bin_gt n k (by omega), bin_gt n (k + 1) (by omega)]
theorem bin_self : ∀ n : Nat, bin n n = 1
  | 0 => rfl
  | n + 1 => by rw [bin, bin_self n, bin_gt n (n + 1) (by omega)]
theorem bin_le : ∀ (n k : Nat), bin n k ≤ 2 ^ n
  | n, 0 => by rw [bin_zero]; exact Nat.one_le_two_pow
  | 0, k + 1 => by simp [bin]
  | n + 1, k + 1 => by
    have h1 := bin_le n k
    have h2 := bin_le n (k + 1)
    rw [bin, Nat.pow_succ]; omega
theorem bin_pos : ∀ (n k : Nat), k ≤ n → 0 < bin n k
  | n, 0, h => by rw [bin_zero]; omega
  | 0, k + 1, h => by omega
  | n + 1, k + 1, h => by have := bin_pos n k (by omega); rw [bin]; omega
theorem bin_step : ∀ (n i : Nat), (i + 1) * bin n (i + 1) = (n - i) * bin n i
  | 0, i => by simp [bin]
  | n + 1, 0 => by
    have h1 : bin n 1 = n := by have := bin_step n 0; simpa [bin_zero] using this
    show (0 + 1) * (bin n 0 + bin n 1) = (n + 1 - 0) * bin (n + 1) 0
    rw [h1, bin_zero, bin_zero]; omega
  | n + 1, j + 1 => by
    have h1 := bin_step n j
    have h2 := bin_step n (j + 1)
    have e : n + 1 - (j + 1) = n - j := by omega
    rw [e, bin, bin, Nat.mul_add, Nat.mul_add, h2]
    rcases Nat.lt_or_ge j n with hj | hj
    · have e2 : n - j = (n - (j + 1)) + 1 := by omega
      rw [show (j + 1 + 1) * bin n (j + 1) = (j + 1) * bin n (j + 1) + bin n (j + 1) by rw [Nat.succ_mul], h1]
      rw [e2, Nat.succ_mul (n - (j + 1)) (bin n (j + 1))]
      omega
    · rw [bin_gt n (j + 1) (by omega)] at *
      simp at *
      exact h1
theorem bin_sym : ∀ (n k : Nat), k ≤ n → bin n k = bin n (n - k)
  | n, 0, h => by rw [bin_zero, Nat.sub_zero, bin_self]
  | 0, k + 1, h => by omega
  | n + 1, k + 1, h => by
    rcases Nat.lt_or_ge k n with hk | hk
    · have e : n + 1 - (k + 1) = (n - (k + 1)) + 1 := by omega
      rw [e, bin, bin, bin_sym n k (by omega), bin_sym n (k + 1) (by omega)]
      have e2 : n - k = n - (k + 1) + 1 := by omega
      rw [e2, Nat.add_comm]
    · have : k = n := by omega
      subst this
      rw [bin_self, Nat.sub_self, bin_zero]

abbrev frA (a b : Int) : AV := .agg [intA a, intA b]
theorem gcd_step (a b : Nat) (h : b ≠ 0) : Nat.gcd a b = Nat.gcd b (a % b) := by
  rw [Nat.gcd_comm a b, Nat.gcd_rec b a, Nat.gcd_comm]
theorem tdiv_nat (a b : Nat) : Int.tdiv (a : Int) (b : Int) = ((a / b : Nat) : Int) := rfl
theorem tmod_nat (a b : Nat) : Int.tmod (a : Int) (b : Int) = ((a % b : Nat) : Int) := rfl
/-- (ablaut/tally.part[int]).least: 1 parameters, 0 captured -/
def s103 : SC := .seq (.reg [o1 1 (.box 124 2 (.t 0)),
   o1 2 (.alloc 124 2 [(.int .i64 0), (.int .i64 0)])])
  (.seq (.regD [o1 5 (.faddr 0 (.t 1)),
    o1 6 (.load none (.t 5)),
    o1 7 (.faddr 1 (.t 1)),
    o1 8 (.load none (.t 7)),
    o1 3 (.mv (.t 6)),
    o1 4 (.mv (.t 8))])
   (.seq (.block 0 (.loop (.seq (.seq (.reg [o1 9 (.mv (.t 4)),
         o1 10 (.bin .neq (.t 9) (cI 0))])
        (.cond (.t 10) (.skip) (.exit 0)))
       (.block 1 (.regD [o1 11 (.mv (.t 4)),
         o1 12 (.mv (.t 3)),
         o1 13 (.mv (.t 4)),
         o1 14 (.bin .rem (.t 12) (.t 13)),
         o1 3 (.mv (.t 11)),
         o1 4 (.mv (.t 14))])))))
    (.seq (.regE [o1 15 (.faddr 0 (.t 1)),
      o1 16 (.load none (.t 15)),
      o1 17 (.mv (.t 3)),
      o1 18 (.bin .quo (.t 16) (.t 17)),
      o1 19 (.faddr 1 (.t 1)),
      o1 20 (.load none (.t 19)),
      o1 21 (.mv (.t 3)),
      o1 22 (.bin .quo (.t 20) (.t 21)),
      o1 23 (.build [(.int .i64 0), (.int .i64 0)] [(0, 1, (.t 18)), (1, 1, (.t 22))]),
      o0 (.store 2 (.t 2) (.t 23))])
     (.ret))))
theorem s103_ok : lookF Try.prog 103 = some (s103, 24, [.cell 2 (some 2)]) := by kernel_rfl
theorem partLeast_ok (a b : Nat) (h : 0 < Nat.gcd a b) (ha : a ≤ 9223372036854775807) (hb : b ≤ 9223372036854775807) : Fn P 103 [frA a b] (frA ((a / Nat.gcd a b : Nat) : Int) ((b / Nat.gcd a b : Nat) : Int)) := by
  (refine fn_look s103_ok (by simp) (by intro k; simp only [go_sem, Nat.reduceEqDiff, ↓reduceIte, reduceCtorEq, Nat.reduceAdd, Nat.reduceMul, Int.reduceToNat, List.reduceReplicate, Nat.reduceLeDiff, Nat.reduceLT, Int.reduceLT, Int.reduceLE, Int.reduceEq]) fun S hS => cwp_sound _ _ _ _ ?_; simp (maxSteps := 900000) (disch := omega) only [s103, go_sem, Nat.reduceEqDiff, ↓reduceIte, reduceCtorEq, Nat.reduceAdd, Nat.reduceMul, Int.reduceToNat, List.reduceReplicate, Nat.reduceLeDiff, Nat.reduceLT, Int.reduceLT, Int.reduceLE, Int.reduceEq])
  repeat' (first | with_reducible refine inw ?_ | simp (maxSteps := 900000) (disch := omega) only [go_sem, Nat.reduceEqDiff, ↓reduceIte, reduceCtorEq, Nat.reduceAdd, Nat.reduceMul, Int.reduceToNat, List.reduceReplicate, Nat.reduceLeDiff, Nat.reduceLT, Int.reduceLT, Int.reduceLE, Int.reduceEq] | with_reducible refine pickB_f ?_ | with_reducible refine giv_intro fun _h => ?_ | with_reducible refine alt_intro ?_ fun _h => ?_ | with_reducible refine pickD_nil ?_ | (with_reducible refine brc (fun _h => ?_) fun _h => ?_) <;> first | (exfalso; omega) | simp only [decide_eq_false _h] | simp only [(_h : (_ : Bool) = _)] | simp only [decide_eq_true _h] | skip)
  (refine loopC hS [1, 2] (by simp only [go_sem, Nat.reduceEqDiff, ↓reduceIte, reduceCtorEq, Nat.reduceAdd, Nat.reduceMul, Int.reduceToNat, List.reduceReplicate, Nat.reduceLeDiff, Nat.reduceLT, Int.reduceLT, Int.reduceLE, Int.reduceEq]; try rfl) (fun (⟨x, y⟩ : Nat × Nat) => [(3, intA x), (4, intA y)]) (fun (⟨x, y⟩ : Nat × Nat) => [some (.row 124 2 [intA a, intA b]), some (.row 124 2 [intA 0, intA 0])]) (fun (⟨x, y⟩ : Nat × Nat) => Nat.gcd x y = Nat.gcd a b ∧ x ≤ 9223372036854775807 ∧ y ≤ 9223372036854775807) (fun (⟨x, y⟩ : Nat × Nat) => y) ((a, b)) ?_ (by intro s; first | rfl | (rcases s with ⟨_, _⟩; rfl) | (rcases s with ⟨_, _, _⟩; rfl) | (rcases s with ⟨_, _, _, _⟩; rfl) | (rcases s with ⟨_, _, _, _, _⟩; rfl)) ?_)
  · simp (maxSteps := 900000) (disch := omega) only [go_sem, Nat.reduceEqDiff, ↓reduceIte, reduceCtorEq, Nat.reduceAdd, Nat.reduceMul, Int.reduceToNat, List.reduceReplicate, Nat.reduceLeDiff, Nat.reduceLT, Int.reduceLT, Int.reduceLE, Int.reduceEq]; exact ⟨ha, hb⟩
  · rintro ⟨x, y⟩ ⟨hg, hx, hy⟩
    replace hg : Nat.gcd x y = Nat.gcd a b := hg
    replace hx : x ≤ 9223372036854775807 := hx
    replace hy : y ≤ 9223372036854775807 := hy
    rcases Nat.eq_zero_or_pos y with rfl | hy0
    · rw [Nat.gcd_zero_right] at hg
      subst hg
      have d1 := Nat.div_le_self a (Nat.gcd a b)
      have d2 := Nat.div_le_self b (Nat.gcd a b)
      generalize hq : a / Nat.gcd a b = q at *
      generalize hr : b / Nat.gcd a b = r at *
      repeat' (first | with_reducible refine inw ?_ | simp (maxSteps := 900000) (disch := omega) only [go_sem, Nat.reduceEqDiff, ↓reduceIte, reduceCtorEq, Nat.reduceAdd, Nat.reduceMul, Int.reduceToNat, List.reduceReplicate, Nat.reduceLeDiff, Nat.reduceLT, Int.reduceLT, Int.reduceLE, Int.reduceEq, tdiv_nat, hq, hr] | with_reducible refine pickB_f ?_ | with_reducible refine giv_intro fun _h => ?_ | with_reducible refine alt_intro ?_ fun _h => ?_ | with_reducible refine pickD_nil ?_ | (with_reducible refine brc (fun _h => ?_) fun _h => ?_) <;> first | (exfalso; omega) | simp only [decide_eq_false _h] | simp only [(_h : (_ : Bool) = _)] | simp only [decide_eq_true _h] | skip)
    · repeat' (first | with_reducible refine inw ?_ | simp (maxSteps := 900000) (disch := omega) only [go_sem, Nat.reduceEqDiff, ↓reduceIte, reduceCtorEq, Nat.reduceAdd, Nat.reduceMul, Int.reduceToNat, List.reduceReplicate, Nat.reduceLeDiff, Nat.reduceLT, Int.reduceLT, Int.reduceLE, Int.reduceEq, tmod_nat] | with_reducible refine pickB_f ?_ | with_reducible refine giv_intro fun _h => ?_ | with_reducible refine alt_intro ?_ fun _h => ?_ | with_reducible refine pickD_nil ?_ | (with_reducible refine brc (fun _h => ?_) fun _h => ?_) <;> first | (exfalso; omega) | simp only [decide_eq_false _h] | simp only [(_h : (_ : Bool) = _)] | simp only [decide_eq_true _h] | skip)
      · refine ⟨(y, x % y), ⟨Nat.mod_lt _ hy0, by rw [← hg]; exact (gcd_step x y (by omega)).symm, hy, ?_⟩, rfl, rfl⟩
        have := Nat.mod_lt x hy0; show x % y ≤ _; omega

theorem choose_step (n i : Nat) (hi : i < n) : 0 < (i + 1) / Nat.gcd (bin n i) (i + 1) ∧ (bin n i / Nat.gcd (bin n i) (i + 1)) * ((n - i) / ((i + 1) / Nat.gcd (bin n i) (i + 1))) = bin n (i + 1) := by
  have hg : 0 < Nat.gcd (bin n i) (i + 1) := Nat.gcd_pos_of_pos_right _ (by omega)
  have hcop := Nat.coprime_div_gcd_div_gcd hg
  have h1 := Nat.div_mul_cancel (Nat.gcd_dvd_left (bin n i) (i + 1))
  have h2 := Nat.div_mul_cancel (Nat.gcd_dvd_right (bin n i) (i + 1))
  have hs := bin_step n i
  generalize hgg : Nat.gcd (bin n i) (i + 1) = g at *
  generalize he : bin n i / g = e at *
  generalize hd : (i + 1) / g = d at *
  have hdp : 0 < d := by
    rcases Nat.eq_zero_or_pos d with h | h
    · rw [h] at h2; omega
    · exact h
  refine ⟨hdp, ?_⟩
  have h3 : d * bin n (i + 1) = (n - i) * e := by
    have : g * (d * bin n (i + 1)) = g * ((n - i) * e) := by
      rw [← Nat.mul_assoc, Nat.mul_comm g d, h2, hs, ← h1]
      rw [Nat.mul_comm g, Nat.mul_assoc]
    exact Nat.eq_of_mul_eq_mul_left hg this
  have h4 : d ∣ n - i := by
    have : d ∣ (n - i) * e := ⟨_, h3.symm⟩
    exact (Nat.Coprime.symm hcop).dvd_of_dvd_mul_right this
  obtain ⟨q, hq⟩ := h4
  rw [hq, Nat.mul_div_cancel_left _ hdp]
  rw [hq, Nat.mul_assoc] at h3
  have := Nat.eq_of_mul_eq_mul_left hdp h3
  rw [this, Nat.mul_comm]

/-- ablaut/tally.chosen: 2 parameters, 0 captured -/
def s46 : SC := .seq (.reg [o1 4 (.mv (cI 0))])
  (.seq (.seq (.reg [o1 10 (.mv (.t 1)),
     o1 11 (.bin .lss (.t 10) (cI 0)),
     o1 12 (.mv (.t 11)),
     oF 13 (.mv (.t 1)) 12,
     oF 14 (.mv (.t 0)) 12,
     oF 15 (.bin .gtr (.t 13) (.t 14)) 12,
     o1 16 (.pick (.t 12) (cB true) (.t 15))])
    (.cond (.t 16) (.seq (.reg [o1 4 (.mv (cI 0))])
      (.ret)) (.skip)))
   (.seq (.reg [o1 5 (.mv (cI 1))])
    (.seq (.seq (.reg [o1 17 (.mv (.t 1)),
       o1 18 (.mv (.t 0)),
       o1 19 (.mv (.t 1)),
       o1 20 (.bin .sub (.t 18) (.t 19)),
       o1 21 (.min (.t 17) (.t 20)),
       o1 22 (.mv (cI 0))])
      (.block 0 (.loop (.seq (.reg [o1 23 (.bin .lss (.t 22) (.t 21))])
         (.seq (.cond (.t 23) (.skip) (.exit 0))
          (.seq (.block 1 (.seq (.reg [o1 24 (.mv (.t 22)),
              o1 6 (.mv (.t 24))])
             (.seq (.reg [o1 25 (.mv (.t 0)),
               o1 26 (.mv (.t 6)),
               o1 27 (.bin .sub (.t 25) (.t 26)),
               o1 28 (.mv (.t 6)),
               o1 29 (.bin .add (.t 28) (cI 1)),
               o1 7 (.mv (.t 27)),
               o1 8 (.mv (.t 29))])
              (.seq (.reg [o1 30 (.mv (.t 5)),
                o1 31 (.mv (.t 8)),
                o1 32 (.build [(.int .i64 0), (.int .i64 0)] [(0, 1, (.t 30)), (1, 1, (.t 31))]),
                o1 33 (.call (.f 103) [(.t 32)]),
                o1 9 (.alloc 124 2 [(.int .i64 0), (.int .i64 0)]),
                o0 (.store 2 (.t 9) (.t 33))])
               (.regD [o1 34 (.faddr 0 (.t 9)),
                o1 35 (.load none (.t 34)),
                o1 36 (.mv (.t 7)),
                o1 37 (.faddr 1 (.t 9)),
                o1 38 (.load none (.t 37)),
                o1 39 (.bin .quo (.t 36) (.t 38)),
                o1 40 (.bin .mul (.t 35) (.t 39)),
                o1 5 (.mv (.t 40))])))))
           (.reg [o1 41 (.bin .add (.t 22) (cI 1)),
            o1 22 (.mv (.t 41))])))))))
     (.seq (.reg [o1 42 (.mv (.t 5)),
       o1 4 (.mv (.t 42))])
      (.ret)))))
theorem s46_ok : lookF Try.prog 46 = some (s46, 43, [.tmp 4]) := by kernel_rfl
theorem chosen_ok (n k : Nat) (hn : n ≤ 60) (hk : k ≤ n) : Fn P 46 [intA n, intA k] (intA (bin n k : Nat)) := by
  (refine fn_look s46_ok (by simp) (by intro k; simp only [go_sem, Nat.reduceEqDiff, ↓reduceIte, reduceCtorEq, Nat.reduceAdd, Nat.reduceMul, Int.reduceToNat, List.reduceReplicate, Nat.reduceLeDiff, Nat.reduceLT, Int.reduceLT, Int.reduceLE, Int.reduceEq]) fun S hS => cwp_sound _ _ _ _ ?_; simp (maxSteps := 900000) (disch := omega) only [s46, go_sem, Nat.reduceEqDiff, ↓reduceIte, reduceCtorEq, Nat.reduceAdd, Nat.reduceMul, Int.reduceToNat, List.reduceReplicate, Nat.reduceLeDiff, Nat.reduceLT, Int.reduceLT, Int.reduceLE, Int.reduceEq])
  repeat' (first | with_reducible refine inw ?_ | simp (maxSteps := 900000) (disch := omega) only [go_sem, Nat.reduceEqDiff, ↓reduceIte, reduceCtorEq, Nat.reduceAdd, Nat.reduceMul, Int.reduceToNat, List.reduceReplicate, Nat.reduceLeDiff, Nat.reduceLT, Int.reduceLT, Int.reduceLE, Int.reduceEq] | with_reducible refine pickB_f ?_ | with_reducible refine giv_intro fun _h => ?_ | with_reducible refine alt_intro ?_ fun _h => ?_ | with_reducible refine pickD_nil ?_ | (with_reducible refine brc (fun _h => ?_) fun _h => ?_) <;> first | (exfalso; omega) | simp only [decide_eq_false _h] | simp only [(_h : (_ : Bool) = _)] | simp only [decide_eq_true _h] | skip)
  (refine loopC hS [0, 21] (by simp only [go_sem, Nat.reduceEqDiff, ↓reduceIte, reduceCtorEq, Nat.reduceAdd, Nat.reduceMul, Int.reduceToNat, List.reduceReplicate, Nat.reduceLeDiff, Nat.reduceLT, Int.reduceLT, Int.reduceLE, Int.reduceEq]; try rfl) (fun (i : Nat) => [(5, intA (bin n i : Nat)), (22, intA i)]) (fun (i : Nat) => []) (fun (i : Nat) => i ≤ min k (n - k)) (fun (i : Nat) => min k (n - k) - i) (0) ?_ (by intro s; first | rfl | (rcases s with ⟨_, _⟩; rfl) | (rcases s with ⟨_, _, _⟩; rfl) | (rcases s with ⟨_, _, _, _⟩; rfl) | (rcases s with ⟨_, _, _, _, _⟩; rfl)) ?_)
  · simp (maxSteps := 900000) (disch := omega) only [go_sem, Nat.reduceEqDiff, ↓reduceIte, reduceCtorEq, Nat.reduceAdd, Nat.reduceMul, Int.reduceToNat, List.reduceReplicate, Nat.reduceLeDiff, Nat.reduceLT, Int.reduceLT, Int.reduceLE, Int.reduceEq]; rw [bin_zero]; exact ⟨Nat.zero_le _, rfl⟩
  · rintro i hi
    replace hi : i ≤ min k (n - k) := hi
    by_cases hlt : i < n
    · obtain ⟨hd, hst⟩ := choose_step n i hlt
      have hb := bin_le n i
      have hb1 := bin_le n (i + 1)
      have hp : 2 ^ n ≤ 2 ^ 60 := Nat.pow_le_pow_right (by omega) hn
      have c1 : bin n i ≤ 9223372036854775807 := by omega
      have c2 : bin n (i + 1) ≤ 9223372036854775807 := by omega
      have hc := partLeast_ok (bin n i) (i + 1) (Nat.gcd_pos_of_pos_right _ (by omega)) c1 (by omega)
      have e1 : (n : Int) - (i : Int) = ((n - i : Nat) : Int) := by omega
      generalize he : bin n i / Nat.gcd (bin n i) (i + 1) = e at *
      generalize hd' : (i + 1) / Nat.gcd (bin n i) (i + 1) = d at *
      have hq0 := Nat.div_le_self (n - i) d
      generalize hq : (n - i) / d = q at *
      have e2 : (e : Int) * (q : Int) = ((bin n (i + 1) : Nat) : Int) := by rw [← hst]; rfl
      repeat' (first | with_reducible refine inw ?_ | simp (maxSteps := 900000) (disch := omega) only [go_sem, Nat.reduceEqDiff, ↓reduceIte, reduceCtorEq, Nat.reduceAdd, Nat.reduceMul, Int.reduceToNat, List.reduceReplicate, Nat.reduceLeDiff, Nat.reduceLT, Int.reduceLT, Int.reduceLE, Int.reduceEq, e1, tdiv_nat, hq, e2] | (with_reducible apply call (hc)); (focus simp (maxSteps := 900000) (disch := omega) only [go_sem, Nat.reduceEqDiff, ↓reduceIte, reduceCtorEq, Nat.reduceAdd, Nat.reduceMul, Int.reduceToNat, List.reduceReplicate, Nat.reduceLeDiff, Nat.reduceLT, Int.reduceLT, Int.reduceLE, Int.reduceEq, e1, tdiv_nat, hq, e2] <;> rfl) | with_reducible refine pickB_f ?_ | with_reducible refine giv_intro fun _h => ?_ | with_reducible refine alt_intro ?_ fun _h => ?_ | with_reducible refine pickD_nil ?_ | (with_reducible refine brc (fun _h => ?_) fun _h => ?_) <;> first | (exfalso; omega) | simp only [decide_eq_false _h] | simp only [(_h : (_ : Bool) = _)] | simp only [decide_eq_true _h] | skip)
      · exact ⟨i + 1, ⟨by omega, by omega⟩, rfl, rfl⟩
      · have : i = k ∨ i = n - k := by omega
        rcases this with rfl | rfl
        · rfl
        · rw [← bin_sym n k hk]
    · repeat' (first | with_reducible refine inw ?_ | simp (maxSteps := 900000) (disch := omega) only [go_sem, Nat.reduceEqDiff, ↓reduceIte, reduceCtorEq, Nat.reduceAdd, Nat.reduceMul, Int.reduceToNat, List.reduceReplicate, Nat.reduceLeDiff, Nat.reduceLT, Int.reduceLT, Int.reduceLE, Int.reduceEq] | with_reducible refine pickB_f ?_ | with_reducible refine giv_intro fun _h => ?_ | with_reducible refine alt_intro ?_ fun _h => ?_ | with_reducible refine pickD_nil ?_ | (with_reducible refine brc (fun _h => ?_) fun _h => ?_) <;> first | (exfalso; omega) | simp only [decide_eq_false _h] | simp only [(_h : (_ : Bool) = _)] | simp only [decide_eq_true _h] | skip)
      · have : i = k ∨ i = n - k := by omega
        rcases this with rfl | rfl
        · rfl
        · rw [← bin_sym n k hk]

abbrev tabA (a b c d : Nat) : AV := .agg [intA a, intA b, intA c, intA d]
/-- ablaut/tally.tables: 1 parameters, 0 captured -/
def s50 : SC := .seq (.reg [o1 1 (.box 22 4 (.t 0)),
   o1 2 (.mv (cI 0)),
   o1 3 (.mv (cI 0))])
  (.seq (.regD [o1 8 (.iaddrA 4 1 (.t 1) (cI 0)),
    o1 9 (.load none (.t 8)),
    o1 10 (.iaddrA 4 1 (.t 1) (cI 1)),
    o1 11 (.load none (.t 10)),
    o1 12 (.iaddrA 4 1 (.t 1) (cI 2)),
    o1 13 (.load none (.t 12)),
    o1 14 (.iaddrA 4 1 (.t 1) (cI 3)),
    o1 15 (.load none (.t 14)),
    o1 4 (.mv (.t 9)),
    o1 5 (.mv (.t 11)),
    o1 6 (.mv (.t 13)),
    o1 7 (.mv (.t 15))])
   (.seq (.reg [o1 16 (.mv (.t 4)),
     o1 17 (.mv (.t 5)),
     o1 18 (.bin .add (.t 16) (.t 17)),
     o1 19 (.mv (.t 4)),
     o1 20 (.call (.f 46) [(.t 18), (.t 19)]),
     o1 21 (.mv (.t 6)),
     o1 22 (.mv (.t 7)),
     o1 23 (.bin .add (.t 21) (.t 22)),
     o1 24 (.mv (.t 6)),
     o1 25 (.call (.f 46) [(.t 23), (.t 24)]),
     o1 26 (.bin .mul (.t 20) (.t 25)),
     o1 27 (.mv (.t 4)),
     o1 28 (.mv (.t 5)),
     o1 29 (.bin .add (.t 27) (.t 28)),
     o1 30 (.mv (.t 6)),
     o1 31 (.bin .add (.t 29) (.t 30)),
     o1 32 (.mv (.t 7)),
     o1 33 (.bin .add (.t 31) (.t 32)),
     o1 34 (.mv (.t 4)),
     o1 35 (.mv (.t 6)),
     o1 36 (.bin .add (.t 34) (.t 35)),
     o1 37 (.call (.f 46) [(.t 33), (.t 36)]),
     o1 2 (.mv (.t 26)),
     o1 3 (.mv (.t 37))])
    (.ret)))
theorem s50_ok : lookF Try.prog 50 = some (s50, 38, [.tmp 2, .tmp 3]) := by kernel_rfl
theorem tables_ok (a b c d : Nat) (h : a + b + c + d ≤ 40) : Fn P 50 [tabA a b c d] (.tup [intA ((bin (a + b) a * bin (c + d) c : Nat) : Int), intA ((bin (a + b + c + d) (a + c) : Nat) : Int)]) := by
  have h1 := bin_le (a + b) a
  have h2 := bin_le (c + d) c
  have hm := Nat.mul_le_mul h1 h2
  rw [← Nat.pow_add] at hm
  have hp : 2 ^ (a + b + (c + d)) ≤ 2 ^ 40 := Nat.pow_le_pow_right (by omega) (by omega)
  have c1 := chosen_ok (a + b) a (by omega) (by omega)
  have c2 := chosen_ok (c + d) c (by omega) (by omega)
  have c3 := chosen_ok (a + b + c + d) (a + c) (by omega) (by omega)
  have hm2 : bin (a + b) a * bin (c + d) c ≤ 2 ^ 40 := Nat.le_trans hm hp
  have e2 : (bin (a + b) a : Int) * (bin (c + d) c : Int) = ((bin (a + b) a * bin (c + d) c : Nat) : Int) := by rw [Int.natCast_mul]
  generalize hx : bin (a + b) a * bin (c + d) c = x at *
  (refine fn_look s50_ok (by simp) (by intro k; simp only [go_sem, Nat.reduceEqDiff, ↓reduceIte, reduceCtorEq, Nat.reduceAdd, Nat.reduceMul, Int.reduceToNat, List.reduceReplicate, Nat.reduceLeDiff, Nat.reduceLT, Int.reduceLT, Int.reduceLE, Int.reduceEq]) fun S hS => cwp_sound _ _ _ _ ?_; simp (maxSteps := 900000) (disch := omega) only [s50, go_sem, Nat.reduceEqDiff, ↓reduceIte, reduceCtorEq, Nat.reduceAdd, Nat.reduceMul, Int.reduceToNat, List.reduceReplicate, Nat.reduceLeDiff, Nat.reduceLT, Int.reduceLT, Int.reduceLE, Int.reduceEq])
  repeat' (first | with_reducible refine inw ?_ | simp (maxSteps := 900000) (disch := omega) only [go_sem, Nat.reduceEqDiff, ↓reduceIte, reduceCtorEq, Nat.reduceAdd, Nat.reduceMul, Int.reduceToNat, List.reduceReplicate, Nat.reduceLeDiff, Nat.reduceLT, Int.reduceLT, Int.reduceLE, Int.reduceEq, e2] | (with_reducible apply call (c1)); (focus simp (maxSteps := 900000) (disch := omega) only [go_sem, Nat.reduceEqDiff, ↓reduceIte, reduceCtorEq, Nat.reduceAdd, Nat.reduceMul, Int.reduceToNat, List.reduceReplicate, Nat.reduceLeDiff, Nat.reduceLT, Int.reduceLT, Int.reduceLE, Int.reduceEq, e2] <;> rfl) | (with_reducible apply call (c2)); (focus simp (maxSteps := 900000) (disch := omega) only [go_sem, Nat.reduceEqDiff, ↓reduceIte, reduceCtorEq, Nat.reduceAdd, Nat.reduceMul, Int.reduceToNat, List.reduceReplicate, Nat.reduceLeDiff, Nat.reduceLT, Int.reduceLT, Int.reduceLE, Int.reduceEq, e2] <;> rfl) | (with_reducible apply call (c3)); (focus simp (maxSteps := 900000) (disch := omega) only [go_sem, Nat.reduceEqDiff, ↓reduceIte, reduceCtorEq, Nat.reduceAdd, Nat.reduceMul, Int.reduceToNat, List.reduceReplicate, Nat.reduceLeDiff, Nat.reduceLT, Int.reduceLT, Int.reduceLE, Int.reduceEq, e2] <;> rfl) | with_reducible refine pickB_f ?_ | with_reducible refine giv_intro fun _h => ?_ | with_reducible refine alt_intro ?_ fun _h => ?_ | with_reducible refine pickD_nil ?_ | (with_reducible refine brc (fun _h => ?_) fun _h => ?_) <;> first | (exfalso; omega) | simp only [decide_eq_false _h] | simp only [(_h : (_ : Bool) = _)] | simp only [decide_eq_true _h] | skip)
end Go.Proofs.Ytedbjmonfbpefaa.Ev

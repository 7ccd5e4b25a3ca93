/- Sounds: which there are, and what a symbol is by them. -/
import Derived.Test.YtpfoflhhbkjngaaFnB
set_option linter.unusedVariables false
set_option linter.unusedSimpArgs false
namespace Go.Proofs.Ytpfoflhhbkjngaa.Ev
open Go Go.Proofs

abbrev Sound := Str × Int × Bool × Int
theorem findIdx_anyG {α : Type} {l : List α} {p : α → Bool} : decide (0 ≤ (match l.findIdx? p with | some i => (i : Int) | none => -1)) = l.any p := by
  cases h : l.findIdx? p with
  | none => have := List.findIdx?_eq_none_iff.1 h; simp; simpa using this
  | some i =>
    obtain ⟨h1, h2, _⟩ := List.findIdx?_eq_some_iff_getElem.1 h
    have : l.any p = true := List.any_eq_true.2 ⟨l[i], List.getElem_mem h1, h2⟩
    rw [this]; simp
/-- slices.IndexFunc[[]ablaut/api.Sound,ablaut/api.Sound]: 2 parameters, 0 captured -/
def s137 : SC := .seq (.reg [⟨(some 4), .mv (.c (.int .i64 0)), none⟩])
  (.seq (.seq (.reg [⟨(some 6), .mv (.t 0), none⟩,
       ⟨(some 7), .lenL (.t 6), none⟩,
       ⟨(some 8), .mv (.c (.int .i64 0)), none⟩])
    (.block 0 (.loop (.seq (.reg [⟨(some 9), .bin .lss (.t 8) (.t 7), none⟩])
       (.seq (.cond (.t 9) (.skip) (.exit 0))
        (.seq (.block 1 (.seq (.reg [⟨(some 10), .mv (.t 8), none⟩,
              ⟨(some 5), .mv (.t 10), none⟩])
           (.seq (.reg [⟨(some 11), .mv (.t 1), none⟩,
               ⟨(some 12), .mv (.t 0), none⟩,
               ⟨(some 13), .mv (.t 5), none⟩,
               ⟨(some 14), .iaddr 4 (.t 12) (.t 13), none⟩,
               ⟨(some 15), .load (some 4) (.t 14), none⟩,
               ⟨(some 16), .call (.t 11) [(.t 15)], none⟩])
            (.cond (.t 16) (.seq (.reg [⟨(some 17), .mv (.t 5), none⟩,
                 ⟨(some 4), .mv (.t 17), none⟩])
              (.ret)) (.skip)))))
         (.reg [⟨(some 18), .bin .add (.t 8) (.c (.int .i64 1)), none⟩,
            ⟨(some 8), .mv (.t 18), none⟩])))))))
   (.seq (.reg [⟨(some 4), .mv (.c (.int .i64 (-1))), none⟩])
    (.ret)))
theorem s137_ok : lookF Try.prog 137 = some (s137, 19, [.tmp 4]) := by kernel_rfl
theorem sndIdx_ok (l : List Sound) (p : Sound → Bool) (g : FuncId) (caps : List AV) (hc : ∀ c ∈ caps, AV.Still c) (hp : ∀ x, x ∈ l → Fn P g (valA x :: caps) (boolA (p x))) :
    Fn P 137 [sl l, .clo g caps] (intA (match l.findIdx? p with | some i => (i : Int) | none => -1)) := by
  have h1 := caps_seen hc
  have h2 := caps_bel hc
  (refine fn_look s137_ok (by simp) (by intro k; simp only [go_sem, Nat.reduceEqDiff, ↓reduceIte, reduceCtorEq, Nat.reduceAdd, Nat.reduceMul, Int.reduceToNat, List.reduceReplicate, Nat.reduceLeDiff, Nat.reduceLT, Int.reduceLT, Int.reduceLE, Int.reduceEq]) fun S hS => cwp_sound _ _ _ _ ?_; simp (disch := omega) only [s137, go_sem, Nat.reduceEqDiff, ↓reduceIte, reduceCtorEq, Nat.reduceAdd, Nat.reduceMul, Int.reduceToNat, List.reduceReplicate, Nat.reduceLeDiff, Nat.reduceLT, Int.reduceLT, Int.reduceLE, Int.reduceEq])
  repeat' (first | (with_reducible refine in_seq ?_) | (with_reducible refine in_reg ?_) | (with_reducible refine in_block ?_) | (with_reducible refine in_cond ?_) | (with_reducible refine in_ret ?_) | (with_reducible refine in_skip ?_) | (simp (disch := omega) only [go_sem, Nat.reduceEqDiff, ↓reduceIte, reduceCtorEq, Nat.reduceAdd, Nat.reduceMul, Int.reduceToNat, List.reduceReplicate, Nat.reduceLeDiff, Nat.reduceLT, Int.reduceLT, Int.reduceLE, Int.reduceEq, h1, h2]) | (with_reducible refine giv_intro fun _h => ?_) | (with_reducible refine alt_intro ?_ (fun _h => ?_)) | ((first | with_reducible refine br_dec (fun _h => ?_) (fun _h => ?_) | with_reducible refine br_ndec (fun _h => ?_) (fun _h => ?_)) <;> (first | (exfalso; omega) | simp only [decide_eq_false _h] | simp only [decide_eq_true _h] | skip)) | ((first | with_reducible refine br_not (fun _h => ?_) (fun _h => ?_) | with_reducible refine br_var (fun _h => ?_) (fun _h => ?_)) <;> (try simp only [_h])) | fail)
  (refine loopC hS [0, 1, 7] (by simp only [go_sem, Nat.reduceEqDiff, ↓reduceIte, reduceCtorEq, Nat.reduceAdd, Nat.reduceMul, Int.reduceToNat, List.reduceReplicate, Nat.reduceLeDiff, Nat.reduceLT, Int.reduceLT, Int.reduceLE, Int.reduceEq]; try rfl) (fun (i : Nat) => [(8, intA i)]) (fun (i : Nat) => []) (fun (i : Nat) => i ≤ l.length ∧ l.findIdx? p = ((l.drop i).findIdx? p).map (· + i)) (fun (i : Nat) => l.length - i) (0) ?h01 ?hn1 ?rd1; case hn1 => (intro s; first | rfl | (rcases s with ⟨_, _⟩; rfl) | (rcases s with ⟨_, _, _⟩; rfl) | (rcases s with ⟨_, _, _, _⟩; rfl) | (rcases s with ⟨_, _, _, _, _⟩; rfl)))
  · simp (disch := omega) only [go_sem, Nat.reduceEqDiff, ↓reduceIte, reduceCtorEq, Nat.reduceAdd, Nat.reduceMul, Int.reduceToNat, List.reduceReplicate, Nat.reduceLeDiff, Nat.reduceLT, Int.reduceLT, Int.reduceLE, Int.reduceEq]; simp
  rintro i ⟨hi, hI⟩
  replace hi : i ≤ l.length := hi
  replace hI : l.findIdx? p = ((l.drop i).findIdx? p).map (· + i) := hI
  repeat' (first | (with_reducible refine in_seq ?_) | (with_reducible refine in_reg ?_) | (with_reducible refine in_block ?_) | (with_reducible refine in_cond ?_) | (with_reducible refine in_ret ?_) | (with_reducible refine in_skip ?_) | (simp (disch := omega) only [go_sem, Nat.reduceEqDiff, ↓reduceIte, reduceCtorEq, Nat.reduceAdd, Nat.reduceMul, Int.reduceToNat, List.reduceReplicate, Nat.reduceLeDiff, Nat.reduceLT, Int.reduceLT, Int.reduceLE, Int.reduceEq, h1, h2]) | (with_reducible refine giv_intro fun _h => ?_) | (with_reducible refine alt_intro ?_ (fun _h => ?_)) | ((first | with_reducible refine br_dec (fun _h => ?_) (fun _h => ?_) | with_reducible refine br_ndec (fun _h => ?_) (fun _h => ?_)) <;> (first | (exfalso; omega) | simp only [decide_eq_false _h] | simp only [decide_eq_true _h] | skip)) | ((first | with_reducible refine br_not (fun _h => ?_) (fun _h => ?_) | with_reducible refine br_var (fun _h => ?_) (fun _h => ?_)) <;> (try simp only [_h])) | ((with_reducible apply call (hp _ (nth_mem (by assumption)))); (focus (simp (disch := omega) only [go_sem, Nat.reduceEqDiff, ↓reduceIte, reduceCtorEq, Nat.reduceAdd, Nat.reduceMul, Int.reduceToNat, List.reduceReplicate, Nat.reduceLeDiff, Nat.reduceLT, Int.reduceLT, Int.reduceLE, Int.reduceEq, h1, h2]; (try rfl); done))) | fail)
  · rw [hI, nth_drop (by assumption)]
    simp_all [List.findIdx?_cons]
  · refine ⟨i + 1, ⟨by omega, by omega, ?_⟩, by omega⟩
    rw [hI, nth_drop (by assumption), List.findIdx?_cons]
    simp_all [Function.comp_def, Nat.add_comm, Nat.add_left_comm]
  · rw [hI, List.drop_eq_nil_of_le (by omega)]; rfl
/-- slices.ContainsFunc[[]ablaut/api.Sound,ablaut/api.Sound]: 2 parameters, 0 captured -/
def s106 : SC := .seq (.reg [⟨(some 4), .mv (.c (.bool false)), none⟩])
  (.seq (.reg [⟨(some 5), .mv (.t 0), none⟩,
      ⟨(some 6), .mv (.t 1), none⟩,
      ⟨(some 7), .call (.f 137) [(.t 5), (.t 6)], none⟩,
      ⟨(some 8), .bin .geq (.t 7) (.c (.int .i64 0)), none⟩,
      ⟨(some 4), .mv (.t 8), none⟩])
   (.ret))
theorem s106_ok : lookF Try.prog 106 = some (s106, 9, [.tmp 4]) := by kernel_rfl
theorem sndAny_ok (l : List Sound) (p : Sound → Bool) (g : FuncId) (caps : List AV) (hc : ∀ c ∈ caps, AV.Still c) (hp : ∀ x, x ∈ l → Fn P g (valA x :: caps) (boolA (p x))) :
    Fn P 106 [sl l, .clo g caps] (boolA (l.any p)) := by
  have h1 := caps_seen hc
  have h2 := caps_bel hc
  (refine fn_look s106_ok (by simp) (by intro k; simp only [go_sem, Nat.reduceEqDiff, ↓reduceIte, reduceCtorEq, Nat.reduceAdd, Nat.reduceMul, Int.reduceToNat, List.reduceReplicate, Nat.reduceLeDiff, Nat.reduceLT, Int.reduceLT, Int.reduceLE, Int.reduceEq]) fun S hS => cwp_sound _ _ _ _ ?_; simp (disch := omega) only [s106, go_sem, Nat.reduceEqDiff, ↓reduceIte, reduceCtorEq, Nat.reduceAdd, Nat.reduceMul, Int.reduceToNat, List.reduceReplicate, Nat.reduceLeDiff, Nat.reduceLT, Int.reduceLT, Int.reduceLE, Int.reduceEq])
  repeat' (first | (with_reducible refine in_seq ?_) | (with_reducible refine in_reg ?_) | (with_reducible refine in_block ?_) | (with_reducible refine in_cond ?_) | (with_reducible refine in_ret ?_) | (with_reducible refine in_skip ?_) | (simp (disch := omega) only [go_sem, Nat.reduceEqDiff, ↓reduceIte, reduceCtorEq, Nat.reduceAdd, Nat.reduceMul, Int.reduceToNat, List.reduceReplicate, Nat.reduceLeDiff, Nat.reduceLT, Int.reduceLT, Int.reduceLE, Int.reduceEq, h1, h2]) | (with_reducible refine giv_intro fun _h => ?_) | (with_reducible refine alt_intro ?_ (fun _h => ?_)) | ((first | with_reducible refine br_dec (fun _h => ?_) (fun _h => ?_) | with_reducible refine br_ndec (fun _h => ?_) (fun _h => ?_)) <;> (first | (exfalso; omega) | simp only [decide_eq_false _h] | simp only [decide_eq_true _h] | skip)) | ((first | with_reducible refine br_not (fun _h => ?_) (fun _h => ?_) | with_reducible refine br_var (fun _h => ?_) (fun _h => ?_)) <;> (try simp only [_h])) | ((with_reducible apply call (sndIdx_ok l p g caps hc hp)); (focus (simp (disch := omega) only [go_sem, Nat.reduceEqDiff, ↓reduceIte, reduceCtorEq, Nat.reduceAdd, Nat.reduceMul, Int.reduceToNat, List.reduceReplicate, Nat.reduceLeDiff, Nat.reduceLT, Int.reduceLT, Int.reduceLE, Int.reduceEq, h1, h2]; (try rfl); done))) | fail)
  exact findIdx_anyG
/-- ablaut/harm.Validate$1: 1 parameters, 0 captured -/
def s107 : SC := .seq (.reg [⟨(some 1), .box 74 4 (.t 0), none⟩,
     ⟨(some 2), .mv (.c (.bool false)), none⟩])
  (.seq (.reg [⟨(some 3), .faddr 0 (.t 1), none⟩,
      ⟨(some 4), .load none (.t 3), none⟩,
      ⟨(some 5), .lenS (.t 4), none⟩,
      ⟨(some 6), .bin .gtr (.t 5) (.c (.int .i64 16)), none⟩,
      ⟨(some 2), .mv (.t 6), none⟩])
   (.ret))
theorem s107_ok : lookF Try.prog 107 = some (s107, 7, [.tmp 2]) := by kernel_rfl
theorem sndLong_ok (r : Sound) : Fn P 107 [valA r] (boolA (decide (16 < r.1.size))) := by
  (refine fn_look s107_ok (by simp) (by intro k; simp only [go_sem, Nat.reduceEqDiff, ↓reduceIte, reduceCtorEq, Nat.reduceAdd, Nat.reduceMul, Int.reduceToNat, List.reduceReplicate, Nat.reduceLeDiff, Nat.reduceLT, Int.reduceLT, Int.reduceLE, Int.reduceEq]) fun S hS => cwp_sound _ _ _ _ ?_; simp (disch := omega) only [s107, go_sem, Nat.reduceEqDiff, ↓reduceIte, reduceCtorEq, Nat.reduceAdd, Nat.reduceMul, Int.reduceToNat, List.reduceReplicate, Nat.reduceLeDiff, Nat.reduceLT, Int.reduceLT, Int.reduceLE, Int.reduceEq])
  repeat' (first | (with_reducible refine in_seq ?_) | (with_reducible refine in_reg ?_) | (with_reducible refine in_block ?_) | (with_reducible refine in_cond ?_) | (with_reducible refine in_ret ?_) | (with_reducible refine in_skip ?_) | (simp (disch := omega) only [go_sem, Nat.reduceEqDiff, ↓reduceIte, reduceCtorEq, Nat.reduceAdd, Nat.reduceMul, Int.reduceToNat, List.reduceReplicate, Nat.reduceLeDiff, Nat.reduceLT, Int.reduceLT, Int.reduceLE, Int.reduceEq]) | (with_reducible refine giv_intro fun _h => ?_) | (with_reducible refine alt_intro ?_ (fun _h => ?_)) | ((first | with_reducible refine br_dec (fun _h => ?_) (fun _h => ?_) | with_reducible refine br_ndec (fun _h => ?_) (fun _h => ?_)) <;> (first | (exfalso; omega) | simp only [decide_eq_false _h] | simp only [decide_eq_true _h] | skip)) | ((first | with_reducible refine br_not (fun _h => ?_) (fun _h => ?_) | with_reducible refine br_var (fun _h => ?_) (fun _h => ?_)) <;> (try simp only [_h])) | fail)
  rw [Bool.eq_iff_iff]; simp; omega
/-- ablaut/harm.isSymbol: 1 parameters, 0 captured -/
def s108 : SC := .seq (.reg [⟨(some 2), .mv (.c (.bool false)), none⟩])
  (.seq (.reg [⟨(some 3), .mv (.t 0), none⟩,
      ⟨(some 4), .buildSl 9 1 1 [(.string ⟨#[]⟩)] [(0, 1, (.t 3))], none⟩,
      ⟨(some 5), .call (.f 110) [(.t 4)], none⟩,
      ⟨(some 6), .bin .eql (.t 5) (.c (.int .i64 0)), none⟩,
      ⟨(some 2), .mv (.t 6), none⟩])
   (.ret))
theorem s108_ok : lookF Try.prog 108 = some (s108, 7, [.tmp 2]) := by kernel_rfl
theorem hIsSymbol_ok (s : Str) : Fn P 108 [strA s] (boolA (goodS s)) := by
  have e : decide (wordErr [s] = 0) = goodS s := by
    have e2 : ([s].any fun s => !(okText s && decide (s.size ≠ 0))) = !(okText s && decide (s.size ≠ 0)) := by rw [List.any_cons, List.any_nil, Bool.or_false]
    unfold wordErr
    by_cases h : 16 < s.size
    · rw [if_pos (by simp [h]), goodS, decide_eq_false (p := s.size ≤ 16) (by omega)]; simp
    · rw [if_neg (by simp; omega), e2, goodS, decide_eq_true (p := s.size ≤ 16) (by omega)]
      by_cases h0 : s.size = 0
      · rw [decide_eq_false (p := s.size ≠ 0) (by omega), decide_eq_false (p := 1 ≤ s.size) (by omega)]; simp
      · rw [decide_eq_true (p := s.size ≠ 0) (by omega), decide_eq_true (p := 1 ≤ s.size) (by omega)]
        cases okText s <;> rfl
  (refine fn_look s108_ok (by simp) (by intro k; simp only [go_sem, Nat.reduceEqDiff, ↓reduceIte, reduceCtorEq, Nat.reduceAdd, Nat.reduceMul, Int.reduceToNat, List.reduceReplicate, Nat.reduceLeDiff, Nat.reduceLT, Int.reduceLT, Int.reduceLE, Int.reduceEq]) fun S hS => cwp_sound _ _ _ _ ?_; simp (disch := omega) only [s108, go_sem, Nat.reduceEqDiff, ↓reduceIte, reduceCtorEq, Nat.reduceAdd, Nat.reduceMul, Int.reduceToNat, List.reduceReplicate, Nat.reduceLeDiff, Nat.reduceLT, Int.reduceLT, Int.reduceLE, Int.reduceEq])
  repeat' (first | (with_reducible refine in_seq ?_) | (with_reducible refine in_reg ?_) | (with_reducible refine in_block ?_) | (with_reducible refine in_cond ?_) | (with_reducible refine in_ret ?_) | (with_reducible refine in_skip ?_) | (simp (disch := omega) only [go_sem, Nat.reduceEqDiff, ↓reduceIte, reduceCtorEq, Nat.reduceAdd, Nat.reduceMul, Int.reduceToNat, List.reduceReplicate, Nat.reduceLeDiff, Nat.reduceLT, Int.reduceLT, Int.reduceLE, Int.reduceEq, e]) | (with_reducible refine giv_intro fun _h => ?_) | (with_reducible refine alt_intro ?_ (fun _h => ?_)) | ((first | with_reducible refine br_dec (fun _h => ?_) (fun _h => ?_) | with_reducible refine br_ndec (fun _h => ?_) (fun _h => ?_)) <;> (first | (exfalso; omega) | simp only [decide_eq_false _h] | simp only [decide_eq_true _h] | skip)) | ((first | with_reducible refine br_not (fun _h => ?_) (fun _h => ?_) | with_reducible refine br_var (fun _h => ?_) (fun _h => ?_)) <;> (try simp only [_h])) | ((with_reducible apply call_lend (ValidateWord_ok [s])); (focus (simp (disch := omega) only [go_sem, Nat.reduceEqDiff, ↓reduceIte, reduceCtorEq, Nat.reduceAdd, Nat.reduceMul, Int.reduceToNat, List.reduceReplicate, Nat.reduceLeDiff, Nat.reduceLT, Int.reduceLT, Int.reduceLE, Int.reduceEq, e]; (try rfl); done)); (focus rfl)) | fail)
/-- ablaut/harm.first: 1 parameters, 0 captured -/
def s62 : SC := .seq (.reg [⟨(some 2), .mv (.c (.int .i64 0)), none⟩])
  (.seq (.seq (.reg [⟨(some 5), .mv (.t 0), none⟩,
       ⟨(some 6), .lenL (.t 5), none⟩,
       ⟨(some 7), .mv (.c (.int .i64 0)), none⟩])
    (.block 0 (.loop (.seq (.reg [⟨(some 8), .bin .lss (.t 7) (.t 6), none⟩])
       (.seq (.cond (.t 8) (.skip) (.exit 0))
        (.seq (.block 1 (.seq (.reg [⟨(some 9), .iaddr 1 (.t 5) (.t 7), none⟩,
              ⟨(some 10), .load none (.t 9), none⟩,
              ⟨(some 4), .mv (.t 10), none⟩])
           (.seq (.reg [⟨(some 11), .mv (.t 4), none⟩,
               ⟨(some 12), .bin .neq (.t 11) (.c (.int .i64 0)), none⟩])
            (.cond (.t 12) (.seq (.reg [⟨(some 13), .mv (.t 4), none⟩,
                 ⟨(some 2), .mv (.t 13), none⟩])
              (.ret)) (.skip)))))
         (.reg [⟨(some 14), .bin .add (.t 7) (.c (.int .i64 1)), none⟩,
            ⟨(some 7), .mv (.t 14), none⟩])))))))
   (.seq (.reg [⟨(some 2), .mv (.c (.int .i64 0)), none⟩])
    (.ret)))
theorem s62_ok : lookF Try.prog 62 = some (s62, 15, [.tmp 2]) := by kernel_rfl
def firstE : List Int → Int
  | [] => 0
  | e :: l => if e ≠ 0 then e else firstE l
theorem first_ok (l : List Int) : Fn P 62 [sl l] (intA (firstE l)) := by
  (refine fn_look s62_ok (by simp) (by intro k; simp only [go_sem, Nat.reduceEqDiff, ↓reduceIte, reduceCtorEq, Nat.reduceAdd, Nat.reduceMul, Int.reduceToNat, List.reduceReplicate, Nat.reduceLeDiff, Nat.reduceLT, Int.reduceLT, Int.reduceLE, Int.reduceEq]) fun S hS => cwp_sound _ _ _ _ ?_; simp (disch := omega) only [s62, go_sem, Nat.reduceEqDiff, ↓reduceIte, reduceCtorEq, Nat.reduceAdd, Nat.reduceMul, Int.reduceToNat, List.reduceReplicate, Nat.reduceLeDiff, Nat.reduceLT, Int.reduceLT, Int.reduceLE, Int.reduceEq])
  repeat' (first | (with_reducible refine in_seq ?_) | (with_reducible refine in_reg ?_) | (with_reducible refine in_block ?_) | (with_reducible refine in_cond ?_) | (with_reducible refine in_ret ?_) | (with_reducible refine in_skip ?_) | (simp (disch := omega) only [go_sem, Nat.reduceEqDiff, ↓reduceIte, reduceCtorEq, Nat.reduceAdd, Nat.reduceMul, Int.reduceToNat, List.reduceReplicate, Nat.reduceLeDiff, Nat.reduceLT, Int.reduceLT, Int.reduceLE, Int.reduceEq]) | (with_reducible refine giv_intro fun _h => ?_) | (with_reducible refine alt_intro ?_ (fun _h => ?_)) | ((first | with_reducible refine br_dec (fun _h => ?_) (fun _h => ?_) | with_reducible refine br_ndec (fun _h => ?_) (fun _h => ?_)) <;> (first | (exfalso; omega) | simp only [decide_eq_false _h] | simp only [decide_eq_true _h] | skip)) | ((first | with_reducible refine br_not (fun _h => ?_) (fun _h => ?_) | with_reducible refine br_var (fun _h => ?_) (fun _h => ?_)) <;> (try simp only [_h])) | fail)
  (refine loopC hS [5, 6] (by simp only [go_sem, Nat.reduceEqDiff, ↓reduceIte, reduceCtorEq, Nat.reduceAdd, Nat.reduceMul, Int.reduceToNat, List.reduceReplicate, Nat.reduceLeDiff, Nat.reduceLT, Int.reduceLT, Int.reduceLE, Int.reduceEq]; try rfl) (fun (i : Nat) => [(7, intA i)]) (fun (i : Nat) => []) (fun (i : Nat) => i ≤ l.length ∧ firstE l = firstE (l.drop i)) (fun (i : Nat) => l.length - i) (0) ?h02 ?hn2 ?rd2; case hn2 => (intro s; first | rfl | (rcases s with ⟨_, _⟩; rfl) | (rcases s with ⟨_, _, _⟩; rfl) | (rcases s with ⟨_, _, _, _⟩; rfl) | (rcases s with ⟨_, _, _, _, _⟩; rfl)))
  · simp (disch := omega) only [go_sem, Nat.reduceEqDiff, ↓reduceIte, reduceCtorEq, Nat.reduceAdd, Nat.reduceMul, Int.reduceToNat, List.reduceReplicate, Nat.reduceLeDiff, Nat.reduceLT, Int.reduceLT, Int.reduceLE, Int.reduceEq]; simp
  rintro i ⟨hi, hI⟩
  replace hi : i ≤ l.length := hi
  replace hI : firstE l = firstE (l.drop i) := hI
  repeat' (first | (with_reducible refine in_seq ?_) | (with_reducible refine in_reg ?_) | (with_reducible refine in_block ?_) | (with_reducible refine in_cond ?_) | (with_reducible refine in_ret ?_) | (with_reducible refine in_skip ?_) | (simp (disch := omega) only [go_sem, Nat.reduceEqDiff, ↓reduceIte, reduceCtorEq, Nat.reduceAdd, Nat.reduceMul, Int.reduceToNat, List.reduceReplicate, Nat.reduceLeDiff, Nat.reduceLT, Int.reduceLT, Int.reduceLE, Int.reduceEq]) | (with_reducible refine giv_intro fun _h => ?_) | (with_reducible refine alt_intro ?_ (fun _h => ?_)) | ((first | with_reducible refine br_dec (fun _h => ?_) (fun _h => ?_) | with_reducible refine br_ndec (fun _h => ?_) (fun _h => ?_)) <;> (first | (exfalso; omega) | simp only [decide_eq_false _h] | simp only [decide_eq_true _h] | skip)) | ((first | with_reducible refine br_not (fun _h => ?_) (fun _h => ?_) | with_reducible refine br_var (fun _h => ?_) (fun _h => ?_)) <;> (try simp only [_h])) | fail)
  · rw [hI, nth_drop (by assumption), firstE, if_pos (by assumption)]
  · refine ⟨i + 1, ⟨by omega, by omega, ?_⟩, by omega⟩
    rw [hI, nth_drop (by assumption), firstE, if_neg (by omega)]
  · rw [hI, List.drop_eq_nil_of_le (by omega)]; rfl

def badS (l : List Sound) (i : Nat) : Bool :=
  !goodS (nth l i).1 || (decide (0 < i) && !ltB (nth l (i - 1)).1 (nth l i).1) || decide ((nth l i).2.1 < 0) || decide (9 < (nth l i).2.1) || decide ((nth l i).2.2.2 < 0) || decide (5 < (nth l i).2.2.2)
def sndErr (l : List Sound) : Int := if 40 < l.length ∨ l.any (fun r => decide (16 < r.1.size)) = true then 3 else if (List.range l.length).any (badS l) = true then 1 else 0
theorem sndErr_3 {l : List Sound} (h : 40 < l.length ∨ l.any (fun r => decide (16 < r.1.size)) = true) : sndErr l = 3 := by rw [sndErr, if_pos h]
theorem sndErr_1 {l : List Sound} (h : ¬ 40 < l.length) (h2 : l.any (fun r => decide (16 < r.1.size)) = false) {i : Nat} (hi : i < l.length) (hb : badS l i = true) : sndErr l = 1 := by
  rw [sndErr, if_neg (by rw [h2]; simp; omega), if_pos]; exact List.any_eq_true.2 ⟨i, List.mem_range.2 hi, hb⟩
theorem sndErr_0 {l : List Sound} (h : ¬ 40 < l.length) (h2 : l.any (fun r => decide (16 < r.1.size)) = false) (hb : ∀ j, j < l.length → badS l j = false) : sndErr l = 0 := by
  rw [sndErr, if_neg (by rw [h2]; simp; omega), if_neg]
  intro h3
  obtain ⟨j, h4, h5⟩ := List.any_eq_true.1 h3
  rw [hb j (List.mem_range.1 h4)] at h5; cases h5

/-- ablaut/harm.Validate: 1 parameters, 0 captured -/
def s51 : SC := .seq (.reg [⟨(some 1), .box 37 1 (.t 0), none⟩,
     ⟨(some 2), .mv (.c (.int .i64 0)), none⟩])
  (.seq (.seq (.reg [⟨(some 5), .faddr 0 (.t 1), none⟩,
       ⟨(some 6), .load none (.t 5), none⟩,
       ⟨(some 7), .lenL (.t 6), none⟩,
       ⟨(some 8), .bin .gtr (.t 7) (.c (.int .i64 40)), none⟩,
       ⟨(some 9), .mv (.t 8), none⟩,
       ⟨(some 10), .faddr 0 (.t 1), some (9, false)⟩,
       ⟨(some 11), .load none (.t 10), some (9, false)⟩,
       ⟨(some 12), .call (.f 106) [(.t 11), (.f 107)], some (9, false)⟩,
       ⟨(some 13), .pick (.t 9) (.c (.bool true)) (.t 12), none⟩])
    (.cond (.t 13) (.seq (.reg [⟨(some 2), .mv (.c (.int .i64 3)), none⟩])
      (.ret)) (.skip)))
   (.seq (.seq (.reg [⟨(some 14), .faddr 0 (.t 1), none⟩,
        ⟨(some 15), .load none (.t 14), none⟩,
        ⟨(some 16), .lenL (.t 15), none⟩,
        ⟨(some 17), .mv (.c (.int .i64 0)), none⟩])
     (.block 0 (.loop (.seq (.reg [⟨(some 18), .bin .lss (.t 17) (.t 16), none⟩])
        (.seq (.cond (.t 18) (.skip) (.exit 0))
         (.seq (.block 1 (.seq (.reg [⟨(some 19), .mv (.t 17), none⟩,
               ⟨(some 20), .iaddr 4 (.t 15) (.t 17), none⟩,
               ⟨(some 21), .load (some 4) (.t 20), none⟩,
               ⟨(some 4), .alloc 74 4 [(.string ⟨#[]⟩), (.int .i64 0), (.bool false), (.int .i64 0)], none⟩,
               ⟨(some 3), .mv (.t 19), none⟩,
               ⟨none, .store 4 (.t 4) (.t 21), none⟩])
            (.seq (.regD [⟨(some 22), .faddr 0 (.t 4), none⟩,
                ⟨(some 23), .load none (.t 22), none⟩,
                ⟨(some 24), .call (.f 108) [(.t 23)], none⟩,
                ⟨(some 25), .un .not (.t 24), none⟩,
                ⟨(some 26), .mv (.t 25), none⟩,
                ⟨(some 27), .mv (.t 3), some (26, false)⟩,
                ⟨(some 28), .bin .gtr (.t 27) (.c (.int .i64 0)), some (26, false)⟩,
                ⟨(some 29), .mv (.t 28), some (26, false)⟩,
                ⟨(some 30), .faddr 0 (.t 1), some (29, true)⟩,
                ⟨(some 31), .load none (.t 30), some (29, true)⟩,
                ⟨(some 32), .mv (.t 3), some (29, true)⟩,
                ⟨(some 33), .bin .sub (.t 32) (.c (.int .i64 1)), some (29, true)⟩,
                ⟨(some 34), .iaddr 4 (.t 31) (.t 33), some (29, true)⟩,
                ⟨(some 35), .faddr 0 (.t 34), some (29, true)⟩,
                ⟨(some 36), .load none (.t 35), some (29, true)⟩,
                ⟨(some 37), .faddr 0 (.t 4), some (29, true)⟩,
                ⟨(some 38), .load none (.t 37), some (29, true)⟩,
                ⟨(some 39), .bin .geq (.t 36) (.t 38), some (29, true)⟩,
                ⟨(some 40), .pick (.t 29) (.t 39) (.c (.bool false)), some (26, false)⟩,
                ⟨(some 41), .pick (.t 26) (.c (.bool true)) (.t 40), none⟩,
                ⟨(some 42), .mv (.t 41), none⟩,
                ⟨(some 43), .faddr 1 (.t 4), some (42, false)⟩,
                ⟨(some 44), .load none (.t 43), some (42, false)⟩,
                ⟨(some 45), .bin .lss (.t 44) (.c (.int .i64 0)), some (42, false)⟩,
                ⟨(some 46), .pick (.t 42) (.c (.bool true)) (.t 45), none⟩,
                ⟨(some 47), .mv (.t 46), none⟩,
                ⟨(some 48), .faddr 1 (.t 4), some (47, false)⟩,
                ⟨(some 49), .load none (.t 48), some (47, false)⟩,
                ⟨(some 50), .bin .gtr (.t 49) (.c (.int .i64 9)), some (47, false)⟩,
                ⟨(some 51), .pick (.t 47) (.c (.bool true)) (.t 50), none⟩,
                ⟨(some 52), .mv (.t 51), none⟩,
                ⟨(some 53), .faddr 3 (.t 4), some (52, false)⟩,
                ⟨(some 54), .load none (.t 53), some (52, false)⟩,
                ⟨(some 55), .bin .lss (.t 54) (.c (.int .i64 0)), some (52, false)⟩,
                ⟨(some 56), .pick (.t 52) (.c (.bool true)) (.t 55), none⟩,
                ⟨(some 57), .mv (.t 56), none⟩,
                ⟨(some 58), .faddr 3 (.t 4), some (57, false)⟩,
                ⟨(some 59), .load none (.t 58), some (57, false)⟩,
                ⟨(some 60), .bin .gtr (.t 59) (.c (.int .i64 5)), some (57, false)⟩,
                ⟨(some 61), .pick (.t 57) (.c (.bool true)) (.t 60), none⟩])
             (.cond (.t 61) (.seq (.reg [⟨(some 2), .mv (.c (.int .i64 1)), none⟩])
               (.ret)) (.skip)))))
          (.reg [⟨(some 62), .bin .add (.t 17) (.c (.int .i64 1)), none⟩,
             ⟨(some 17), .mv (.t 62), none⟩])))))))
    (.seq (.reg [⟨(some 2), .mv (.c (.int .i64 0)), none⟩])
     (.ret))))
theorem s51_ok : lookF Try.prog 51 = some (s51, 63, [.tmp 2]) := by kernel_rfl
set_option maxHeartbeats 1000000 in
theorem hValidate_ok (l : List Sound) : Fn P 51 [.agg [sl l]] (intA (sndErr l)) := by
  (refine fn_look s51_ok (by simp) (by intro k; simp only [go_sem, Nat.reduceEqDiff, ↓reduceIte, reduceCtorEq, Nat.reduceAdd, Nat.reduceMul, Int.reduceToNat, List.reduceReplicate, Nat.reduceLeDiff, Nat.reduceLT, Int.reduceLT, Int.reduceLE, Int.reduceEq]) fun S hS => cwp_sound _ _ _ _ ?_; simp (disch := omega) only [s51, go_sem, Nat.reduceEqDiff, ↓reduceIte, reduceCtorEq, Nat.reduceAdd, Nat.reduceMul, Int.reduceToNat, List.reduceReplicate, Nat.reduceLeDiff, Nat.reduceLT, Int.reduceLT, Int.reduceLE, Int.reduceEq])
  repeat' (first | (with_reducible refine in_seq ?_) | (with_reducible refine in_reg ?_) | (with_reducible refine in_block ?_) | (with_reducible refine in_cond ?_) | (with_reducible refine in_ret ?_) | (with_reducible refine in_skip ?_) | (simp (disch := omega) only [go_sem, Nat.reduceEqDiff, ↓reduceIte, reduceCtorEq, Nat.reduceAdd, Nat.reduceMul, Int.reduceToNat, List.reduceReplicate, Nat.reduceLeDiff, Nat.reduceLT, Int.reduceLT, Int.reduceLE, Int.reduceEq]) | (with_reducible refine giv_intro fun _h => ?_) | (with_reducible refine alt_intro ?_ (fun _h => ?_)) | ((first | with_reducible refine br_dec (fun _h => ?_) (fun _h => ?_) | with_reducible refine br_ndec (fun _h => ?_) (fun _h => ?_)) <;> (first | (exfalso; omega) | simp only [decide_eq_false _h] | simp only [decide_eq_true _h] | skip)) | ((first | with_reducible refine br_not (fun _h => ?_) (fun _h => ?_) | with_reducible refine br_var (fun _h => ?_) (fun _h => ?_)) <;> (try simp only [_h])) | ((with_reducible apply call (sndAny_ok l (fun r => decide (16 < r.1.size)) _ [] (by simp) fun x _ => sndLong_ok x)); (focus (simp (disch := omega) only [go_sem, Nat.reduceEqDiff, ↓reduceIte, reduceCtorEq, Nat.reduceAdd, Nat.reduceMul, Int.reduceToNat, List.reduceReplicate, Nat.reduceLeDiff, Nat.reduceLT, Int.reduceLT, Int.reduceLE, Int.reduceEq]; (try rfl); done))) | fail)
  · rw [sndErr_3 (.inl (by omega))]
  · rw [sndErr_3 (.inr _h)]
  · (refine loopC hS [1, 15, 16] (by simp only [go_sem, Nat.reduceEqDiff, ↓reduceIte, reduceCtorEq, Nat.reduceAdd, Nat.reduceMul, Int.reduceToNat, List.reduceReplicate, Nat.reduceLeDiff, Nat.reduceLT, Int.reduceLT, Int.reduceLE, Int.reduceEq]; try rfl) (fun (i : Nat) => [(17, intA i)]) (fun (i : Nat) => [some (.row 37 1 [sl l])]) (fun (i : Nat) => i ≤ l.length ∧ ∀ j, j < i → badS l j = false) (fun (i : Nat) => l.length - i) (0) ?h03 ?hn3 ?rd3; case hn3 => (intro s; first | rfl | (rcases s with ⟨_, _⟩; rfl) | (rcases s with ⟨_, _, _⟩; rfl) | (rcases s with ⟨_, _, _, _⟩; rfl) | (rcases s with ⟨_, _, _, _, _⟩; rfl)))
    · simp (disch := omega) only [go_sem, Nat.reduceEqDiff, ↓reduceIte, reduceCtorEq, Nat.reduceAdd, Nat.reduceMul, Int.reduceToNat, List.reduceReplicate, Nat.reduceLeDiff, Nat.reduceLT, Int.reduceLT, Int.reduceLE, Int.reduceEq]; simp
    rintro i ⟨hi, hI⟩
    replace hi : i ≤ l.length := hi
    replace hI : ∀ j, j < i → badS l j = false := hI
    by_cases hil : i < l.length
    · have hp : i = 0 ∨ i - 1 < l.length := by omega
      have e1 : ((i : Int) - 1).toNat = i - 1 := by omega
      repeat' (first | (with_reducible refine in_seq ?_) | (with_reducible refine in_reg ?_) | (with_reducible refine in_block ?_) | (with_reducible refine in_cond ?_) | (with_reducible refine in_ret ?_) | (with_reducible refine in_skip ?_) | (simp (disch := omega) only [go_sem, Nat.reduceEqDiff, ↓reduceIte, reduceCtorEq, Nat.reduceAdd, Nat.reduceMul, Int.reduceToNat, List.reduceReplicate, Nat.reduceLeDiff, Nat.reduceLT, Int.reduceLT, Int.reduceLE, Int.reduceEq, e1]) | (with_reducible refine giv_intro fun _h => ?_) | (with_reducible refine alt_intro ?_ (fun _h => ?_)) | ((first | with_reducible refine br_dec (fun _h => ?_) (fun _h => ?_) | with_reducible refine br_ndec (fun _h => ?_) (fun _h => ?_)) <;> (first | (exfalso; omega) | simp only [decide_eq_false _h] | simp only [decide_eq_true _h] | skip)) | ((first | with_reducible refine br_not (fun _h => ?_) (fun _h => ?_) | with_reducible refine br_var (fun _h => ?_) (fun _h => ?_)) <;> (try simp only [_h])) | ((with_reducible apply call_D (hIsSymbol_ok _)); (focus (simp (disch := omega) only [go_sem, Nat.reduceEqDiff, ↓reduceIte, reduceCtorEq, Nat.reduceAdd, Nat.reduceMul, Int.reduceToNat, List.reduceReplicate, Nat.reduceLeDiff, Nat.reduceLT, Int.reduceLT, Int.reduceLE, Int.reduceEq, e1]; (try rfl); done))) | fail)
      all_goals first
        | (refine (sndErr_1 (by omega) (by assumption) hil ?_).symm
           simp only [badS, Bool.or_eq_true, Bool.and_eq_true, Bool.not_eq_true', decide_eq_true_eq]
           first
             | exact .inl (.inl (.inl (.inl (.inl (by assumption)))))
             | exact .inl (.inl (.inl (.inl (.inr ⟨by omega, by assumption⟩))))
             | exact .inl (.inl (.inl (.inr (by omega))))
             | exact .inl (.inl (.inr (by omega)))
             | exact .inl (.inr (by omega))
             | exact .inr (by omega))
        | (refine ⟨i + 1, ⟨by omega, by omega, fun j hj => ?_⟩, by omega⟩
           by_cases e : j = i
           · subst e
             simp only [badS, Bool.or_eq_false_iff, Bool.and_eq_false_iff, Bool.not_eq_false', decide_eq_false_iff_not]
             exact ⟨⟨⟨⟨⟨by assumption, by first | (right; assumption) | (left; omega)⟩, by omega⟩, by omega⟩, by omega⟩, by omega⟩
           · exact hI j (by omega))
    · repeat' (first | (with_reducible refine in_seq ?_) | (with_reducible refine in_reg ?_) | (with_reducible refine in_block ?_) | (with_reducible refine in_cond ?_) | (with_reducible refine in_ret ?_) | (with_reducible refine in_skip ?_) | (simp (disch := omega) only [go_sem, Nat.reduceEqDiff, ↓reduceIte, reduceCtorEq, Nat.reduceAdd, Nat.reduceMul, Int.reduceToNat, List.reduceReplicate, Nat.reduceLeDiff, Nat.reduceLT, Int.reduceLT, Int.reduceLE, Int.reduceEq]) | (with_reducible refine giv_intro fun _h => ?_) | (with_reducible refine alt_intro ?_ (fun _h => ?_)) | ((first | with_reducible refine br_dec (fun _h => ?_) (fun _h => ?_) | with_reducible refine br_ndec (fun _h => ?_) (fun _h => ?_)) <;> (first | (exfalso; omega) | simp only [decide_eq_false _h] | simp only [decide_eq_true _h] | skip)) | ((first | with_reducible refine br_not (fun _h => ?_) (fun _h => ?_) | with_reducible refine br_var (fun _h => ?_) (fun _h => ?_)) <;> (try simp only [_h])) | fail)
      rw [sndErr_0 (by omega) (by assumption) fun j hj => hI j (by omega)]

theorem sAny_step {l : List Sound} {i : Nat} (h : ∀ j, j < i → (nth l j).1.size ≤ 16) (hi : l.length ≤ i) : l.any (fun r => decide (16 < r.1.size)) = false := by
  rw [← Bool.not_eq_true]; intro h2
  obtain ⟨r, h3, h4⟩ := List.any_eq_true.1 h2
  obtain ⟨j, hj, rfl⟩ := List.getElem_of_mem h3
  have := h j (by omega)
  rw [nth_eq hj] at this
  simp at h4; omega
/-- ablaut/ablautref13.Validate: 1 parameters, 0 captured -/
def s52 : SC := .seq (.reg [⟨(some 1), .box 37 1 (.t 0), none⟩,
     ⟨(some 2), .mv (.c (.int .i64 0)), none⟩])
  (.seq (.seq (.reg [⟨(some 6), .faddr 0 (.t 1), none⟩,
       ⟨(some 7), .load none (.t 6), none⟩,
       ⟨(some 8), .lenL (.t 7), none⟩,
       ⟨(some 9), .bin .gtr (.t 8) (.c (.int .i64 40)), none⟩])
    (.cond (.t 9) (.seq (.reg [⟨(some 2), .mv (.c (.int .i64 3)), none⟩])
      (.ret)) (.skip)))
   (.seq (.seq (.reg [⟨(some 3), .mv (.c (.int .i64 0)), none⟩])
     (.block 0 (.loop (.seq (.seq (.reg [⟨(some 10), .mv (.t 3), none⟩,
            ⟨(some 11), .faddr 0 (.t 1), none⟩,
            ⟨(some 12), .load none (.t 11), none⟩,
            ⟨(some 13), .lenL (.t 12), none⟩,
            ⟨(some 14), .bin .lss (.t 10) (.t 13), none⟩])
         (.cond (.t 14) (.skip) (.exit 0)))
        (.seq (.block 1 (.seq (.reg [⟨(some 17), .faddr 0 (.t 1), none⟩,
              ⟨(some 18), .load none (.t 17), none⟩,
              ⟨(some 19), .mv (.t 3), none⟩,
              ⟨(some 20), .iaddr 4 (.t 18) (.t 19), none⟩,
              ⟨(some 21), .faddr 0 (.t 20), none⟩,
              ⟨(some 22), .load none (.t 21), none⟩,
              ⟨(some 23), .lenS (.t 22), none⟩,
              ⟨(some 24), .bin .gtr (.t 23) (.c (.int .i64 16)), none⟩])
           (.cond (.t 24) (.seq (.reg [⟨(some 2), .mv (.c (.int .i64 3)), none⟩])
             (.ret)) (.skip))))
         (.reg [⟨(some 15), .mv (.t 3), none⟩,
            ⟨(some 16), .bin .add (.t 15) (.c (.int .i64 1)), none⟩,
            ⟨(some 3), .mv (.t 16), none⟩]))))))
    (.seq (.seq (.reg [⟨(some 4), .mv (.c (.int .i64 0)), none⟩])
      (.block 2 (.loop (.seq (.seq (.reg [⟨(some 25), .mv (.t 4), none⟩,
             ⟨(some 26), .faddr 0 (.t 1), none⟩,
             ⟨(some 27), .load none (.t 26), none⟩,
             ⟨(some 28), .lenL (.t 27), none⟩,
             ⟨(some 29), .bin .lss (.t 25) (.t 28), none⟩])
          (.cond (.t 29) (.skip) (.exit 2)))
         (.seq (.block 3 (.seq (.reg [⟨(some 32), .faddr 0 (.t 1), none⟩,
               ⟨(some 33), .load none (.t 32), none⟩,
               ⟨(some 34), .mv (.t 4), none⟩,
               ⟨(some 35), .iaddr 4 (.t 33) (.t 34), none⟩,
               ⟨(some 36), .load (some 4) (.t 35), none⟩,
               ⟨(some 5), .alloc 74 4 [(.string ⟨#[]⟩), (.int .i64 0), (.bool false), (.int .i64 0)], none⟩,
               ⟨none, .store 4 (.t 5) (.t 36), none⟩])
            (.seq (.regD [⟨(some 37), .faddr 0 (.t 5), none⟩,
                ⟨(some 38), .load none (.t 37), none⟩,
                ⟨(some 39), .call (.f 109) [(.t 38)], none⟩,
                ⟨(some 40), .un .not (.t 39), none⟩,
                ⟨(some 41), .mv (.t 40), none⟩,
                ⟨(some 42), .mv (.t 4), some (41, false)⟩,
                ⟨(some 43), .bin .gtr (.t 42) (.c (.int .i64 0)), some (41, false)⟩,
                ⟨(some 44), .mv (.t 43), some (41, false)⟩,
                ⟨(some 45), .faddr 0 (.t 1), some (44, true)⟩,
                ⟨(some 46), .load none (.t 45), some (44, true)⟩,
                ⟨(some 47), .mv (.t 4), some (44, true)⟩,
                ⟨(some 48), .bin .sub (.t 47) (.c (.int .i64 1)), some (44, true)⟩,
                ⟨(some 49), .iaddr 4 (.t 46) (.t 48), some (44, true)⟩,
                ⟨(some 50), .faddr 0 (.t 49), some (44, true)⟩,
                ⟨(some 51), .load none (.t 50), some (44, true)⟩,
                ⟨(some 52), .faddr 0 (.t 5), some (44, true)⟩,
                ⟨(some 53), .load none (.t 52), some (44, true)⟩,
                ⟨(some 54), .bin .geq (.t 51) (.t 53), some (44, true)⟩,
                ⟨(some 55), .pick (.t 44) (.t 54) (.c (.bool false)), some (41, false)⟩,
                ⟨(some 56), .pick (.t 41) (.c (.bool true)) (.t 55), none⟩,
                ⟨(some 57), .mv (.t 56), none⟩,
                ⟨(some 58), .faddr 1 (.t 5), some (57, false)⟩,
                ⟨(some 59), .load none (.t 58), some (57, false)⟩,
                ⟨(some 60), .bin .lss (.t 59) (.c (.int .i64 0)), some (57, false)⟩,
                ⟨(some 61), .pick (.t 57) (.c (.bool true)) (.t 60), none⟩,
                ⟨(some 62), .mv (.t 61), none⟩,
                ⟨(some 63), .faddr 1 (.t 5), some (62, false)⟩,
                ⟨(some 64), .load none (.t 63), some (62, false)⟩,
                ⟨(some 65), .bin .gtr (.t 64) (.c (.int .i64 9)), some (62, false)⟩,
                ⟨(some 66), .pick (.t 62) (.c (.bool true)) (.t 65), none⟩,
                ⟨(some 67), .mv (.t 66), none⟩,
                ⟨(some 68), .faddr 3 (.t 5), some (67, false)⟩,
                ⟨(some 69), .load none (.t 68), some (67, false)⟩,
                ⟨(some 70), .bin .lss (.t 69) (.c (.int .i64 0)), some (67, false)⟩,
                ⟨(some 71), .pick (.t 67) (.c (.bool true)) (.t 70), none⟩,
                ⟨(some 72), .mv (.t 71), none⟩,
                ⟨(some 73), .faddr 3 (.t 5), some (72, false)⟩,
                ⟨(some 74), .load none (.t 73), some (72, false)⟩,
                ⟨(some 75), .bin .gtr (.t 74) (.c (.int .i64 5)), some (72, false)⟩,
                ⟨(some 76), .pick (.t 72) (.c (.bool true)) (.t 75), none⟩])
             (.cond (.t 76) (.seq (.reg [⟨(some 2), .mv (.c (.int .i64 1)), none⟩])
               (.ret)) (.skip)))))
          (.reg [⟨(some 30), .mv (.t 4), none⟩,
             ⟨(some 31), .bin .add (.t 30) (.c (.int .i64 1)), none⟩,
             ⟨(some 4), .mv (.t 31), none⟩]))))))
     (.seq (.reg [⟨(some 2), .mv (.c (.int .i64 0)), none⟩])
      (.ret)))))
theorem s52_ok : lookF Try.prog 52 = some (s52, 77, [.tmp 2]) := by kernel_rfl
set_option maxHeartbeats 1000000 in
theorem rValidate_ok (l : List Sound) : Fn P 52 [.agg [sl l]] (intA (sndErr l)) := by
  (refine fn_look s52_ok (by simp) (by intro k; simp only [go_sem, Nat.reduceEqDiff, ↓reduceIte, reduceCtorEq, Nat.reduceAdd, Nat.reduceMul, Int.reduceToNat, List.reduceReplicate, Nat.reduceLeDiff, Nat.reduceLT, Int.reduceLT, Int.reduceLE, Int.reduceEq]) fun S hS => cwp_sound _ _ _ _ ?_; simp (disch := omega) only [s52, go_sem, Nat.reduceEqDiff, ↓reduceIte, reduceCtorEq, Nat.reduceAdd, Nat.reduceMul, Int.reduceToNat, List.reduceReplicate, Nat.reduceLeDiff, Nat.reduceLT, Int.reduceLT, Int.reduceLE, Int.reduceEq])
  repeat' (first | (with_reducible refine in_seq ?_) | (with_reducible refine in_reg ?_) | (with_reducible refine in_block ?_) | (with_reducible refine in_cond ?_) | (with_reducible refine in_ret ?_) | (with_reducible refine in_skip ?_) | (simp (disch := omega) only [go_sem, Nat.reduceEqDiff, ↓reduceIte, reduceCtorEq, Nat.reduceAdd, Nat.reduceMul, Int.reduceToNat, List.reduceReplicate, Nat.reduceLeDiff, Nat.reduceLT, Int.reduceLT, Int.reduceLE, Int.reduceEq]) | (with_reducible refine giv_intro fun _h => ?_) | (with_reducible refine alt_intro ?_ (fun _h => ?_)) | ((first | with_reducible refine br_dec (fun _h => ?_) (fun _h => ?_) | with_reducible refine br_ndec (fun _h => ?_) (fun _h => ?_)) <;> (first | (exfalso; omega) | simp only [decide_eq_false _h] | simp only [decide_eq_true _h] | skip)) | ((first | with_reducible refine br_not (fun _h => ?_) (fun _h => ?_) | with_reducible refine br_var (fun _h => ?_) (fun _h => ?_)) <;> (try simp only [_h])) | fail)
  · rw [sndErr_3 (.inl (by omega))]
  (refine loopC hS [1] (by simp only [go_sem, Nat.reduceEqDiff, ↓reduceIte, reduceCtorEq, Nat.reduceAdd, Nat.reduceMul, Int.reduceToNat, List.reduceReplicate, Nat.reduceLeDiff, Nat.reduceLT, Int.reduceLT, Int.reduceLE, Int.reduceEq]; try rfl) (fun (i : Nat) => [(3, intA i)]) (fun (i : Nat) => [some (.row 37 1 [sl l])]) (fun (i : Nat) => i ≤ l.length ∧ ∀ j, j < i → (nth l j).1.size ≤ 16) (fun (i : Nat) => l.length - i) (0) ?h04 ?hn4 ?rd4; case hn4 => (intro s; first | rfl | (rcases s with ⟨_, _⟩; rfl) | (rcases s with ⟨_, _, _⟩; rfl) | (rcases s with ⟨_, _, _, _⟩; rfl) | (rcases s with ⟨_, _, _, _, _⟩; rfl)))
  · simp (disch := omega) only [go_sem, Nat.reduceEqDiff, ↓reduceIte, reduceCtorEq, Nat.reduceAdd, Nat.reduceMul, Int.reduceToNat, List.reduceReplicate, Nat.reduceLeDiff, Nat.reduceLT, Int.reduceLT, Int.reduceLE, Int.reduceEq]; simp
  rintro i ⟨hi, hI⟩
  replace hi : i ≤ l.length := hi
  replace hI : ∀ j, j < i → (nth l j).1.size ≤ 16 := hI
  by_cases hil : i < l.length
  · repeat' (first | (with_reducible refine in_seq ?_) | (with_reducible refine in_reg ?_) | (with_reducible refine in_block ?_) | (with_reducible refine in_cond ?_) | (with_reducible refine in_ret ?_) | (with_reducible refine in_skip ?_) | (simp (disch := omega) only [go_sem, Nat.reduceEqDiff, ↓reduceIte, reduceCtorEq, Nat.reduceAdd, Nat.reduceMul, Int.reduceToNat, List.reduceReplicate, Nat.reduceLeDiff, Nat.reduceLT, Int.reduceLT, Int.reduceLE, Int.reduceEq]) | (with_reducible refine giv_intro fun _h => ?_) | (with_reducible refine alt_intro ?_ (fun _h => ?_)) | ((first | with_reducible refine br_dec (fun _h => ?_) (fun _h => ?_) | with_reducible refine br_ndec (fun _h => ?_) (fun _h => ?_)) <;> (first | (exfalso; omega) | simp only [decide_eq_false _h] | simp only [decide_eq_true _h] | skip)) | ((first | with_reducible refine br_not (fun _h => ?_) (fun _h => ?_) | with_reducible refine br_var (fun _h => ?_) (fun _h => ?_)) <;> (try simp only [_h])) | fail)
    · rw [sndErr_3 (.inr (List.any_eq_true.2 ⟨nth l i, nth_mem hil, by simp; omega⟩))]
    · refine ⟨i + 1, ⟨by omega, by omega, fun j hj => ?_⟩, by omega⟩
      by_cases e : j = i
      · subst e; omega
      · exact hI j (by omega)
  · have hany := sAny_step hI (by omega)
    repeat' (first | (with_reducible refine in_seq ?_) | (with_reducible refine in_reg ?_) | (with_reducible refine in_block ?_) | (with_reducible refine in_cond ?_) | (with_reducible refine in_ret ?_) | (with_reducible refine in_skip ?_) | (simp (disch := omega) only [go_sem, Nat.reduceEqDiff, ↓reduceIte, reduceCtorEq, Nat.reduceAdd, Nat.reduceMul, Int.reduceToNat, List.reduceReplicate, Nat.reduceLeDiff, Nat.reduceLT, Int.reduceLT, Int.reduceLE, Int.reduceEq]) | (with_reducible refine giv_intro fun _h => ?_) | (with_reducible refine alt_intro ?_ (fun _h => ?_)) | ((first | with_reducible refine br_dec (fun _h => ?_) (fun _h => ?_) | with_reducible refine br_ndec (fun _h => ?_) (fun _h => ?_)) <;> (first | (exfalso; omega) | simp only [decide_eq_false _h] | simp only [decide_eq_true _h] | skip)) | ((first | with_reducible refine br_not (fun _h => ?_) (fun _h => ?_) | with_reducible refine br_var (fun _h => ?_) (fun _h => ?_)) <;> (try simp only [_h])) | fail)
    (refine loopC hS [1] (by simp only [go_sem, Nat.reduceEqDiff, ↓reduceIte, reduceCtorEq, Nat.reduceAdd, Nat.reduceMul, Int.reduceToNat, List.reduceReplicate, Nat.reduceLeDiff, Nat.reduceLT, Int.reduceLT, Int.reduceLE, Int.reduceEq]; try rfl) (fun (i : Nat) => [(4, intA i)]) (fun (i : Nat) => [some (.row 37 1 [sl l])]) (fun (i : Nat) => i ≤ l.length ∧ ∀ j, j < i → badS l j = false) (fun (i : Nat) => l.length - i) (0) ?h05 ?hn5 ?rd5; case hn5 => (intro s; first | rfl | (rcases s with ⟨_, _⟩; rfl) | (rcases s with ⟨_, _, _⟩; rfl) | (rcases s with ⟨_, _, _, _⟩; rfl) | (rcases s with ⟨_, _, _, _, _⟩; rfl)))
    · simp (disch := omega) only [go_sem, Nat.reduceEqDiff, ↓reduceIte, reduceCtorEq, Nat.reduceAdd, Nat.reduceMul, Int.reduceToNat, List.reduceReplicate, Nat.reduceLeDiff, Nat.reduceLT, Int.reduceLT, Int.reduceLE, Int.reduceEq]; simp
    rintro i ⟨hi, hI⟩
    replace hi : i ≤ l.length := hi
    replace hI : ∀ j, j < i → badS l j = false := hI
    by_cases hil : i < l.length
    · have hp : i = 0 ∨ i - 1 < l.length := by omega
      have e1 : ((i : Int) - 1).toNat = i - 1 := by omega
      have hsz : ByteArray.size (nth l i).1 ≤ 4611686018427387904 := by
        have h3 := List.any_eq_false.1 hany _ (nth_mem hil)
        simp at h3; omega
      have c1 := IsSymbol_ok (nth l i).1 hsz
      repeat' (first | (with_reducible refine in_seq ?_) | (with_reducible refine in_reg ?_) | (with_reducible refine in_block ?_) | (with_reducible refine in_cond ?_) | (with_reducible refine in_ret ?_) | (with_reducible refine in_skip ?_) | (simp (disch := omega) only [go_sem, Nat.reduceEqDiff, ↓reduceIte, reduceCtorEq, Nat.reduceAdd, Nat.reduceMul, Int.reduceToNat, List.reduceReplicate, Nat.reduceLeDiff, Nat.reduceLT, Int.reduceLT, Int.reduceLE, Int.reduceEq, e1]) | (with_reducible refine giv_intro fun _h => ?_) | (with_reducible refine alt_intro ?_ (fun _h => ?_)) | ((first | with_reducible refine br_dec (fun _h => ?_) (fun _h => ?_) | with_reducible refine br_ndec (fun _h => ?_) (fun _h => ?_)) <;> (first | (exfalso; omega) | simp only [decide_eq_false _h] | simp only [decide_eq_true _h] | skip)) | ((first | with_reducible refine br_not (fun _h => ?_) (fun _h => ?_) | with_reducible refine br_var (fun _h => ?_) (fun _h => ?_)) <;> (try simp only [_h])) | ((with_reducible apply call_D (c1)); (focus (simp (disch := omega) only [go_sem, Nat.reduceEqDiff, ↓reduceIte, reduceCtorEq, Nat.reduceAdd, Nat.reduceMul, Int.reduceToNat, List.reduceReplicate, Nat.reduceLeDiff, Nat.reduceLT, Int.reduceLT, Int.reduceLE, Int.reduceEq, e1]; (try rfl); done))) | fail)
      all_goals first
        | (refine (sndErr_1 (by omega) (by assumption) hil ?_).symm
           simp only [badS, goodS, Bool.or_eq_true, Bool.and_eq_true, Bool.not_eq_true', decide_eq_true_eq]
           first
             | exact .inl (.inl (.inl (.inl (.inl (by assumption)))))
             | exact .inl (.inl (.inl (.inl (.inr ⟨by omega, by assumption⟩))))
             | exact .inl (.inl (.inl (.inr (by omega))))
             | exact .inl (.inl (.inr (by omega)))
             | exact .inl (.inr (by omega))
             | exact .inr (by omega))
        | (refine ⟨i + 1, ⟨by omega, by omega, fun j hj => ?_⟩, by omega⟩
           by_cases e : j = i
           · subst e
             simp only [badS, Bool.or_eq_false_iff, Bool.and_eq_false_iff, Bool.not_eq_false', decide_eq_false_iff_not]
             exact ⟨⟨⟨⟨⟨by assumption, by first | (right; assumption) | (left; omega)⟩, by omega⟩, by omega⟩, by omega⟩, by omega⟩
           · exact hI j (by omega))
    · repeat' (first | (with_reducible refine in_seq ?_) | (with_reducible refine in_reg ?_) | (with_reducible refine in_block ?_) | (with_reducible refine in_cond ?_) | (with_reducible refine in_ret ?_) | (with_reducible refine in_skip ?_) | (simp (disch := omega) only [go_sem, Nat.reduceEqDiff, ↓reduceIte, reduceCtorEq, Nat.reduceAdd, Nat.reduceMul, Int.reduceToNat, List.reduceReplicate, Nat.reduceLeDiff, Nat.reduceLT, Int.reduceLT, Int.reduceLE, Int.reduceEq]) | (with_reducible refine giv_intro fun _h => ?_) | (with_reducible refine alt_intro ?_ (fun _h => ?_)) | ((first | with_reducible refine br_dec (fun _h => ?_) (fun _h => ?_) | with_reducible refine br_ndec (fun _h => ?_) (fun _h => ?_)) <;> (first | (exfalso; omega) | simp only [decide_eq_false _h] | simp only [decide_eq_true _h] | skip)) | ((first | with_reducible refine br_not (fun _h => ?_) (fun _h => ?_) | with_reducible refine br_var (fun _h => ?_) (fun _h => ?_)) <;> (try simp only [_h])) | fail)
      rw [sndErr_0 (by omega) (by assumption) fun j hj => hI j (by omega)]

end Go.Proofs.Ytpfoflhhbkjngaa.Ev

/- The syllables of a word. -/
import Derived.Test.YtpfoflhhbkjngaaFnHb
set_option linter.unusedVariables false
set_option linter.unusedSimpArgs false
namespace Go.Proofs.Ytpfoflhhbkjngaa.Ev
open Go Go.Proofs

section
variable (v : Str → Bool) (lo : Str → Int) (w : List Str)
/-- Where the syllable begins whose vowel stands further on, from k downwards. -/
def cutD (last : Int) : Nat → Nat
  | 0 => 0
  | k + 1 => if last < k ∧ lo (nth w k) < lo (nth w (k + 1)) then cutD last k else k + 1
def cutF (last : Int) (i : Nat) : Nat := if last < (i : Int) - 1 then cutD lo w last (i - 1) else i
/-- Where syllables begin from place i on, n places. -/
def cutsF (i : Nat) (last : Int) : Nat → List Nat
  | 0 => []
  | n + 1 => if v (nth w i) = true then (if 0 ≤ last then cutF lo w last i :: cutsF (i + 1) i n else cutsF (i + 1) i n) else cutsF (i + 1) last n
def pieces (at_ : Nat) : List Nat → List (List Str)
  | [] => [w.drop at_]
  | c :: cs => (w.take c).drop at_ :: pieces c cs
def sylL : List (List Str) := if w.length = 0 then [] else pieces w 0 (cutsF v lo w 0 (-1) w.length)
theorem cutD_range (last : Int) : ∀ k : Nat, last < k → last < cutD lo w last k ∧ cutD lo w last k ≤ k
  | 0, h => by simp only [cutD]; omega
  | k + 1, h => by
    simp only [cutD]
    split
    · have := cutD_range last k (by omega); omega
    · omega
theorem cutF_range {last : Int} {i : Nat} (h : last < i) : last < cutF lo w last i ∧ cutF lo w last i ≤ i := by
  unfold cutF
  split
  · have := cutD_range lo w last (i - 1) (by omega); omega
  · omega
def okC (at_ : Nat) : List Nat → Prop
  | [] => at_ ≤ w.length
  | c :: cs => at_ ≤ c ∧ c ≤ w.length ∧ okC c cs
theorem cuts_ok : ∀ (n i : Nat) (last : Int) (at_ : Nat), i + n ≤ w.length → -1 ≤ last → last < i → (0 ≤ last → (at_ : Int) ≤ last) → at_ ≤ i → okC w at_ (cutsF v lo w i last n)
  | 0, i, last, a, h1, h2, h3, h4, h5 => by simp only [cutsF, okC]; omega
  | n + 1, i, last, a, h1, h2, h3, h4, h5 => by
    simp only [cutsF]
    split
    · split
      · have hr := cutF_range lo w h3
        refine ⟨by omega, by omega, cuts_ok n (i + 1) i _ (by omega) (by omega) (by omega) (fun _ => by omega) (by omega)⟩
      · exact cuts_ok n (i + 1) i _ (by omega) (by omega) (by omega) (fun _ => by omega) (by omega)
    · exact cuts_ok n (i + 1) last _ (by omega) (by omega) (by omega) h4 (by omega)
theorem cuts_len : ∀ (n i : Nat) (last : Int), (cutsF v lo w i last n).length ≤ n
  | 0, i, last => by simp [cutsF]
  | n + 1, i, last => by
    simp only [cutsF]
    split
    · split
      · have := cuts_len n (i + 1) i; simp; omega
      · have := cuts_len n (i + 1) i; omega
    · have := cuts_len n (i + 1) last; omega
end

structure Split (v : Str → Bool) (lo : Str → Int) (w : List Str) (i : Nat) (last : Int) (fr : Nat) (out : List (List Str)) : Prop where
  le : i ≤ w.length
  l1 : -1 ≤ last
  l2 : last < i
  f1 : 0 ≤ last → (fr : Int) ≤ last
  f2 : fr ≤ i
  len : out.length ≤ i
  eq : pieces w 0 (cutsF v lo w 0 (-1) w.length) = out ++ pieces w fr (cutsF v lo w i last (w.length - i))
theorem Split.no {v : Str → Bool} {lo : Str → Int} {w : List Str} {i : Nat} {last : Int} {fr : Nat} {out : List (List Str)} (h : Split v lo w i last fr out) (hi : i < w.length) (hv : v (nth w i) = false) : Split v lo w (i + 1) last fr out := by
  refine ⟨by omega, h.l1, by have := h.l2; omega, h.f1, by have := h.f2; omega, by have := h.len; omega, ?_⟩
  rw [h.eq, show w.length - i = (w.length - (i + 1)) + 1 by omega, cutsF, if_neg (by rw [hv]; simp)]
theorem Split.first {v : Str → Bool} {lo : Str → Int} {w : List Str} {i : Nat} {last : Int} {fr : Nat} {out : List (List Str)} (h : Split v lo w i last fr out) (hi : i < w.length) (hv : v (nth w i) = true) (hl : ¬ 0 ≤ last) : Split v lo w (i + 1) i fr out := by
  refine ⟨by omega, by omega, by omega, fun _ => by have := h.f2; omega, by have := h.f2; omega, by have := h.len; omega, ?_⟩
  rw [h.eq, show w.length - i = (w.length - (i + 1)) + 1 by omega, cutsF, if_pos hv, if_neg hl]
theorem Split.cut {v : Str → Bool} {lo : Str → Int} {w : List Str} {i : Nat} {last : Int} {fr : Nat} {out : List (List Str)} (h : Split v lo w i last fr out) (hi : i < w.length) (hv : v (nth w i) = true) (hl : 0 ≤ last) :
    Split v lo w (i + 1) i (cutF lo w last i) (out ++ [(w.take (cutF lo w last i)).drop fr]) := by
  have hr := cutF_range lo w h.l2
  refine ⟨by omega, by omega, by omega, fun _ => by omega, by omega, by have := h.len; simp; omega, ?_⟩
  rw [h.eq, show w.length - i = (w.length - (i + 1)) + 1 by omega, cutsF, if_pos hv, if_pos hl, pieces]; simp
/-- The cut on its way down. -/
def Down (lo : Str → Int) (w : List Str) (last : Int) (i c : Nat) : Prop := last < c ∧ c ≤ i ∧ (c = i ∨ cutF lo w last i = cutD lo w last c)
theorem Down.step {lo : Str → Int} {w : List Str} {last : Int} {i c : Nat} (h : Down lo w last i c) (hl : 0 ≤ last) (hi : last < i) (h1 : last < (c : Int) - 1) (h2 : c = i ∨ lo (nth w (c - 1)) < lo (nth w c)) : Down lo w last i (c - 1) := by
  obtain ⟨a, b, d⟩ := h
  refine ⟨by omega, by omega, .inr ?_⟩
  by_cases e : c = i
  · subst e; rw [cutF, if_pos h1]
  · rcases d with d | d
    · exact absurd d e
    · rcases h2 with h2 | h2
      · exact absurd h2 e
      · obtain ⟨m, rfl⟩ : ∃ m, c = m + 1 := ⟨c - 1, by omega⟩
        rw [d, cutD, if_pos ⟨by omega, by simpa using h2⟩]; rfl
theorem Down.done {lo : Str → Int} {w : List Str} {last : Int} {i c : Nat} (h : Down lo w last i c) (hl : 0 ≤ last) (h1 : ¬ last < (c : Int) - 1 ∨ (¬ c = i ∧ ¬ lo (nth w (c - 1)) < lo (nth w c))) : c = cutF lo w last i := by
  obtain ⟨a, b, d⟩ := h
  by_cases e : c = i
  · subst e
    rcases h1 with h1 | h1
    · rw [cutF, if_neg h1]
    · exact absurd rfl h1.1
  · rcases d with d | d
    · exact absurd d e
    · obtain ⟨m, rfl⟩ : ∃ m, c = m + 1 := ⟨c - 1, by omega⟩
      rw [d, cutD, if_neg]
      rintro ⟨g1, g2⟩
      rcases h1 with h1 | h1
      · omega
      · exact h1.2 (by simpa using g2)

/-- (ablaut/harm.sounds).split: 2 parameters, 0 captured -/
def s64 : SC := .seq (.reg [⟨(some 4), .mv (.c (.slice none 0 0)), none⟩])
  (.seq (.reg [⟨(some 5), .mv (.c (.slice none 0 0)), none⟩])
   (.seq (.reg [⟨(some 6), .mv (.c (.int .i64 0)), none⟩,
       ⟨(some 7), .mv (.c (.int .i64 (-1))), none⟩])
    (.seq (.seq (.reg [⟨(some 11), .mv (.t 1), none⟩,
         ⟨(some 12), .lenL (.t 11), none⟩,
         ⟨(some 13), .mv (.c (.int .i64 0)), none⟩])
      (.block 0 (.loop (.seq (.reg [⟨(some 14), .bin .lss (.t 13) (.t 12), none⟩])
         (.seq (.cond (.t 14) (.skip) (.exit 0))
          (.seq (.block 1 (.seq (.reg [⟨(some 15), .mv (.t 13), none⟩,
                ⟨(some 16), .iaddr 1 (.t 11) (.t 13), none⟩,
                ⟨(some 17), .load none (.t 16), none⟩,
                ⟨(some 8), .mv (.t 15), none⟩,
                ⟨(some 9), .mv (.t 17), none⟩])
             (.seq (.seq (.reg [⟨(some 18), .mv (.t 0), none⟩,
                  ⟨(some 19), .mv (.t 9), none⟩,
                  ⟨(some 20), .call (.f 73) [(.t 18), (.t 19)], none⟩,
                  ⟨(some 21), .un .not (.t 20), none⟩])
               (.cond (.t 21) (.exit 1) (.skip)))
              (.seq (.seq (.reg [⟨(some 22), .mv (.t 7), none⟩,
                   ⟨(some 23), .bin .geq (.t 22) (.c (.int .i64 0)), none⟩])
                (.cond (.t 23) (.seq (.reg [⟨(some 24), .mv (.t 8), none⟩,
                     ⟨(some 10), .mv (.t 24), none⟩])
                  (.seq (.block 2 (.loop (.seq (.seq (.regD [⟨(some 25), .mv (.t 10), none⟩,
                          ⟨(some 26), .bin .sub (.t 25) (.c (.int .i64 1)), none⟩,
                          ⟨(some 27), .mv (.t 7), none⟩,
                          ⟨(some 28), .bin .gtr (.t 26) (.t 27), none⟩,
                          ⟨(some 29), .mv (.t 28), none⟩,
                          ⟨(some 30), .mv (.t 10), some (29, true)⟩,
                          ⟨(some 31), .mv (.t 8), some (29, true)⟩,
                          ⟨(some 32), .bin .eql (.t 30) (.t 31), some (29, true)⟩,
                          ⟨(some 33), .mv (.t 32), some (29, true)⟩,
                          ⟨(some 34), .mv (.t 0), some (33, false)⟩,
                          ⟨(some 35), .mv (.t 1), some (33, false)⟩,
                          ⟨(some 36), .mv (.t 10), some (33, false)⟩,
                          ⟨(some 37), .bin .sub (.t 36) (.c (.int .i64 1)), some (33, false)⟩,
                          ⟨(some 38), .iaddr 1 (.t 35) (.t 37), some (33, false)⟩,
                          ⟨(some 39), .load none (.t 38), some (33, false)⟩,
                          ⟨(some 40), .look .str (.agg #[(.string ⟨#[]⟩), (.int .i64 0), (.bool false), (.int .i64 0)]) false (.t 34) (.t 39), some (33, false)⟩,
                          ⟨(some 41), .fld none 1 (.t 40), some (33, false)⟩,
                          ⟨(some 42), .mv (.t 0), some (33, false)⟩,
                          ⟨(some 43), .mv (.t 1), some (33, false)⟩,
                          ⟨(some 44), .mv (.t 10), some (33, false)⟩,
                          ⟨(some 45), .iaddr 1 (.t 43) (.t 44), some (33, false)⟩,
                          ⟨(some 46), .load none (.t 45), some (33, false)⟩,
                          ⟨(some 47), .look .str (.agg #[(.string ⟨#[]⟩), (.int .i64 0), (.bool false), (.int .i64 0)]) false (.t 42) (.t 46), some (33, false)⟩,
                          ⟨(some 48), .fld none 1 (.t 47), some (33, false)⟩,
                          ⟨(some 49), .bin .lss (.t 41) (.t 48), some (33, false)⟩,
                          ⟨(some 50), .pick (.t 33) (.c (.bool true)) (.t 49), some (29, true)⟩,
                          ⟨(some 51), .pick (.t 29) (.t 50) (.c (.bool false)), none⟩])
                       (.cond (.t 51) (.skip) (.exit 2)))
                      (.block 3 (.reg [⟨(some 52), .mv (.t 10), none⟩,
                          ⟨(some 53), .bin .sub (.t 52) (.c (.int .i64 1)), none⟩,
                          ⟨(some 10), .mv (.t 53), none⟩])))))
                   (.seq (.reg [⟨(some 54), .mv (.t 5), none⟩,
                       ⟨(some 55), .mv (.t 1), none⟩,
                       ⟨(some 56), .mv (.t 6), none⟩,
                       ⟨(some 57), .mv (.t 10), none⟩,
                       ⟨(some 58), .sl 1 (.t 55) (some (.t 56)) (some (.t 57)), none⟩,
                       ⟨(some 59), .call (.f 79) [(.t 58)], none⟩,
                       ⟨(some 60), .buildSl 22 1 1 [(.slice none 0 0)] [(0, 1, (.t 59))], none⟩,
                       ⟨(some 61), .app 22 1 24 (.t 54) (.t 60), none⟩,
                       ⟨(some 5), .mv (.t 61), none⟩])
                    (.reg [⟨(some 62), .mv (.t 10), none⟩,
                       ⟨(some 6), .mv (.t 62), none⟩])))) (.skip)))
               (.reg [⟨(some 63), .mv (.t 8), none⟩,
                  ⟨(some 7), .mv (.t 63), none⟩])))))
           (.reg [⟨(some 64), .bin .add (.t 13) (.c (.int .i64 1)), none⟩,
              ⟨(some 13), .mv (.t 64), none⟩])))))))
     (.seq (.seq (.reg [⟨(some 65), .mv (.t 1), none⟩,
          ⟨(some 66), .lenL (.t 65), none⟩,
          ⟨(some 67), .bin .gtr (.t 66) (.c (.int .i64 0)), none⟩])
       (.cond (.t 67) (.reg [⟨(some 68), .mv (.t 5), none⟩,
           ⟨(some 69), .mv (.t 1), none⟩,
           ⟨(some 70), .mv (.t 6), none⟩,
           ⟨(some 71), .sl 1 (.t 69) (some (.t 70)) none, none⟩,
           ⟨(some 72), .call (.f 79) [(.t 71)], none⟩,
           ⟨(some 73), .buildSl 22 1 1 [(.slice none 0 0)] [(0, 1, (.t 72))], none⟩,
           ⟨(some 74), .app 22 1 24 (.t 68) (.t 73), none⟩,
           ⟨(some 5), .mv (.t 74), none⟩]) (.skip)))
      (.seq (.reg [⟨(some 75), .mv (.t 5), none⟩,
          ⟨(some 4), .mv (.t 75), none⟩])
       (.ret))))))
theorem s64_ok : lookF Try.prog 64 = some (s64, 76, [.tmp 4]) := by kernel_rfl
set_option maxHeartbeats 2000000 in
theorem split_ok (m : List (Str × Sound)) (w : List Str) (hw : w.length ≤ 1000000) : Fn P 64 [romA m, sl w] (sl (sylL (vowM m) (louM m) w)) := by
  (refine fn_look s64_ok (by simp) (by intro k; simp only [go_sem, Nat.reduceEqDiff, ↓reduceIte, reduceCtorEq, Nat.reduceAdd, Nat.reduceMul, Int.reduceToNat, List.reduceReplicate, Nat.reduceLeDiff, Nat.reduceLT, Int.reduceLT, Int.reduceLE, Int.reduceEq]) fun S hS => cwp_sound _ _ _ _ ?_; simp (disch := omega) only [s64, go_sem, Nat.reduceEqDiff, ↓reduceIte, reduceCtorEq, Nat.reduceAdd, Nat.reduceMul, Int.reduceToNat, List.reduceReplicate, Nat.reduceLeDiff, Nat.reduceLT, Int.reduceLT, Int.reduceLE, Int.reduceEq])
  repeat' (first | (with_reducible refine in_seq ?_) | (with_reducible refine in_reg ?_) | (with_reducible refine in_block ?_) | (with_reducible refine in_cond ?_) | (with_reducible refine in_ret ?_) | (with_reducible refine in_skip ?_) | (simp (disch := omega) only [go_sem, Nat.reduceEqDiff, ↓reduceIte, reduceCtorEq, Nat.reduceAdd, Nat.reduceMul, Int.reduceToNat, List.reduceReplicate, Nat.reduceLeDiff, Nat.reduceLT, Int.reduceLT, Int.reduceLE, Int.reduceEq]) | (with_reducible refine giv_intro fun _h => ?_) | (with_reducible refine alt_intro ?_ (fun _h => ?_)) | ((first | with_reducible refine br_dec (fun _h => ?_) (fun _h => ?_) | with_reducible refine br_ndec (fun _h => ?_) (fun _h => ?_)) <;> (first | (exfalso; omega) | simp only [decide_eq_false _h] | simp only [decide_eq_true _h] | skip)) | ((first | with_reducible refine br_not (fun _h => ?_) (fun _h => ?_) | with_reducible refine br_var (fun _h => ?_) (fun _h => ?_)) <;> (try simp only [_h])) | fail)
  refine nil_row 5 22 1 (by simp (disch := omega) only [go_sem, Nat.reduceEqDiff, ↓reduceIte, reduceCtorEq, Nat.reduceAdd, Nat.reduceMul, Int.reduceToNat, List.reduceReplicate, Nat.reduceLeDiff, Nat.reduceLT, Int.reduceLT, Int.reduceLE, Int.reduceEq]) ?_
  (refine loopC hS [0, 1, 11, 12] (by simp only [go_sem, Nat.reduceEqDiff, ↓reduceIte, reduceCtorEq, Nat.reduceAdd, Nat.reduceMul, Int.reduceToNat, List.reduceReplicate, Nat.reduceLeDiff, Nat.reduceLT, Int.reduceLT, Int.reduceLE, Int.reduceEq]; try rfl) (fun (⟨i, last, fr, out⟩ : Nat × Int × Nat × List (List Str)) => [(5, own S 0 out), (6, intA fr), (7, intA last), (13, intA i)]) (fun (⟨i, last, fr, out⟩ : Nat × Int × Nat × List (List Str)) => [rowO 22 out]) (fun (⟨i, last, fr, out⟩ : Nat × Int × Nat × List (List Str)) => Split (vowM m) (louM m) w i last fr out) (fun (⟨i, last, fr, out⟩ : Nat × Int × Nat × List (List Str)) => w.length - i) ((0, -1, 0, [])) ?h01 ?hn1 ?rd1; case hn1 => (intro s; first | rfl | (rcases s with ⟨_, _⟩; rfl) | (rcases s with ⟨_, _, _⟩; rfl) | (rcases s with ⟨_, _, _, _⟩; rfl) | (rcases s with ⟨_, _, _, _, _⟩; rfl)))
  · simp (disch := omega) only [go_sem, Nat.reduceEqDiff, ↓reduceIte, reduceCtorEq, Nat.reduceAdd, Nat.reduceMul, Int.reduceToNat, List.reduceReplicate, Nat.reduceLeDiff, Nat.reduceLT, Int.reduceLT, Int.reduceLE, Int.reduceEq]
    exact ⟨Nat.zero_le _, by omega, by omega, by omega, by omega, by simp, by simp⟩
  · rintro ⟨i, last, fr, out⟩ h
    replace h : Split (vowM m) (louM m) w i last fr out := h
    have a1 := h.le
    have a2 := h.l1
    have a3 := h.l2
    have a4 := h.f1
    have a5 := h.f2
    have a6 := h.len
    by_cases hi : i < w.length
    · repeat' (first | (with_reducible refine in_seq ?_) | (with_reducible refine in_reg ?_) | (with_reducible refine in_block ?_) | (with_reducible refine in_cond ?_) | (with_reducible refine in_ret ?_) | (with_reducible refine in_skip ?_) | (simp (disch := omega) only [go_sem, Nat.reduceEqDiff, ↓reduceIte, reduceCtorEq, Nat.reduceAdd, Nat.reduceMul, Int.reduceToNat, List.reduceReplicate, Nat.reduceLeDiff, Nat.reduceLT, Int.reduceLT, Int.reduceLE, Int.reduceEq]) | (with_reducible refine giv_intro fun _h => ?_) | (with_reducible refine alt_intro ?_ (fun _h => ?_)) | ((first | with_reducible refine br_dec (fun _h => ?_) (fun _h => ?_) | with_reducible refine br_ndec (fun _h => ?_) (fun _h => ?_)) <;> (first | (exfalso; omega) | simp only [decide_eq_false _h] | simp only [decide_eq_true _h] | skip)) | ((first | with_reducible refine br_not (fun _h => ?_) (fun _h => ?_) | with_reducible refine br_var (fun _h => ?_) (fun _h => ?_)) <;> (try simp only [_h])) | ((with_reducible apply call (vowel_ok m _)); (focus (simp (disch := omega) only [go_sem, Nat.reduceEqDiff, ↓reduceIte, reduceCtorEq, Nat.reduceAdd, Nat.reduceMul, Int.reduceToNat, List.reduceReplicate, Nat.reduceLeDiff, Nat.reduceLT, Int.reduceLT, Int.reduceLE, Int.reduceEq]; (try rfl); done))) | fail)
      · refine ⟨(i + 1, last, fr, out), ?_⟩
        dsimp only
        exact ⟨⟨by omega, h.no hi _h⟩, ⟨⟨rfl, rfl⟩, rfl, rfl, by omega⟩, rfl⟩
      · rename_i hv
        have hl : 0 ≤ last := _h
        (refine loopC hS [0, 1, 5, 6, 7, 8, 11, 12, 13] (by simp only [go_sem, Nat.reduceEqDiff, ↓reduceIte, reduceCtorEq, Nat.reduceAdd, Nat.reduceMul, Int.reduceToNat, List.reduceReplicate, Nat.reduceLeDiff, Nat.reduceLT, Int.reduceLT, Int.reduceLE, Int.reduceEq]; try rfl) (fun (c : Nat) => [(10, intA c)]) (fun (c : Nat) => [rowO 22 out]) (fun (c : Nat) => Down (louM m) w last i c) (fun (c : Nat) => c) (i) ?h02 ?hn2 ?rd2; case hn2 => (intro s; first | rfl | (rcases s with ⟨_, _⟩; rfl) | (rcases s with ⟨_, _, _⟩; rfl) | (rcases s with ⟨_, _, _, _⟩; rfl) | (rcases s with ⟨_, _, _, _, _⟩; rfl)))
        · simp (disch := omega) only [go_sem, Nat.reduceEqDiff, ↓reduceIte, reduceCtorEq, Nat.reduceAdd, Nat.reduceMul, Int.reduceToNat, List.reduceReplicate, Nat.reduceLeDiff, Nat.reduceLT, Int.reduceLT, Int.reduceLE, Int.reduceEq]
          exact ⟨by omega, by omega, .inl rfl⟩
        · rintro c hc
          replace hc : Down (louM m) w last i c := hc
          obtain ⟨b1, b2, b3⟩ := id hc
          have e1 : ((c : Int) - 1).toNat = c - 1 := by omega
          have e2 : c - 1 < w.length := by omega
          have k1 := cloneS_ok (List.take (c - fr) (List.drop fr w)) (by simp; omega)
          repeat' (first | (with_reducible refine in_seq ?_) | (with_reducible refine in_reg ?_) | (with_reducible refine in_block ?_) | (with_reducible refine in_cond ?_) | (with_reducible refine in_ret ?_) | (with_reducible refine in_skip ?_) | (simp (disch := omega) only [go_sem, Nat.reduceEqDiff, ↓reduceIte, reduceCtorEq, Nat.reduceAdd, Nat.reduceMul, Int.reduceToNat, List.reduceReplicate, Nat.reduceLeDiff, Nat.reduceLT, Int.reduceLT, Int.reduceLE, Int.reduceEq, e1, zS, List.length_append]) | (with_reducible refine giv_intro fun _h => ?_) | (with_reducible refine alt_intro ?_ (fun _h => ?_)) | ((first | with_reducible refine br_dec (fun _h => ?_) (fun _h => ?_) | with_reducible refine br_ndec (fun _h => ?_) (fun _h => ?_)) <;> (first | (exfalso; omega) | simp only [decide_eq_false _h] | simp only [decide_eq_true _h] | skip)) | ((first | with_reducible refine br_not (fun _h => ?_) (fun _h => ?_) | with_reducible refine br_var (fun _h => ?_) (fun _h => ?_)) <;> (try simp only [_h])) | ((with_reducible apply call (k1)); (focus (simp (disch := omega) only [go_sem, Nat.reduceEqDiff, ↓reduceIte, reduceCtorEq, Nat.reduceAdd, Nat.reduceMul, Int.reduceToNat, List.reduceReplicate, Nat.reduceLeDiff, Nat.reduceLT, Int.reduceLT, Int.reduceLE, Int.reduceEq, e1, zS, List.length_append]; (try rfl); done))) | fail)
          · exact ⟨c - 1, ⟨by omega, hc.step hl a3 (by omega) (.inl (by omega))⟩, by omega⟩
          · exact ⟨c - 1, ⟨by omega, hc.step hl a3 (by omega) (.inr _h)⟩, by omega⟩
          all_goals
            have hcut : c = cutF (louM m) w last i := hc.done hl (by first | (left; omega) | exact .inr ⟨by omega, _h⟩)
            have hs := h.cut hi hv hl
            rw [← hcut, List.drop_take] at hs
            refine ⟨(i + 1, i, c, out ++ [List.take (c - fr) (List.drop fr w)]), ?_⟩
            dsimp only
            exact ⟨⟨by omega, hs⟩, ⟨⟨by simp, by simp⟩, rfl, rfl, by omega⟩, rfl⟩
      · refine ⟨(i + 1, i, fr, out), ?_⟩
        dsimp only
        exact ⟨⟨by omega, h.first hi (by assumption) _h⟩, ⟨⟨rfl, rfl⟩, rfl, rfl, by omega⟩, rfl⟩
    · have hl : w.length - i = 0 := by omega
      have he := h.eq
      rw [hl, cutsF, pieces] at he
      have k1 := cloneS_ok (List.take (w.length - fr) (List.drop fr w)) (by simp; omega)
      have e9 : (out ++ [List.drop fr w]).length = out.length + 1 := by simp
      have e8 : List.take (w.length - fr) (List.drop fr w) = List.drop fr w := List.take_of_length_le (by simp)
      rw [e8] at k1
      repeat' (first | (with_reducible refine in_seq ?_) | (with_reducible refine in_reg ?_) | (with_reducible refine in_block ?_) | (with_reducible refine in_cond ?_) | (with_reducible refine in_ret ?_) | (with_reducible refine in_skip ?_) | (simp (disch := omega) only [go_sem, Nat.reduceEqDiff, ↓reduceIte, reduceCtorEq, Nat.reduceAdd, Nat.reduceMul, Int.reduceToNat, List.reduceReplicate, Nat.reduceLeDiff, Nat.reduceLT, Int.reduceLT, Int.reduceLE, Int.reduceEq, e8, List.length_append]) | (with_reducible refine giv_intro fun _h => ?_) | (with_reducible refine alt_intro ?_ (fun _h => ?_)) | ((first | with_reducible refine br_dec (fun _h => ?_) (fun _h => ?_) | with_reducible refine br_ndec (fun _h => ?_) (fun _h => ?_)) <;> (first | (exfalso; omega) | simp only [decide_eq_false _h] | simp only [decide_eq_true _h] | skip)) | ((first | with_reducible refine br_not (fun _h => ?_) (fun _h => ?_) | with_reducible refine br_var (fun _h => ?_) (fun _h => ?_)) <;> (try simp only [_h])) | ((with_reducible apply call (k1)); (focus (simp (disch := omega) only [go_sem, Nat.reduceEqDiff, ↓reduceIte, reduceCtorEq, Nat.reduceAdd, Nat.reduceMul, Int.reduceToNat, List.reduceReplicate, Nat.reduceLeDiff, Nat.reduceLT, Int.reduceLT, Int.reduceLE, Int.reduceEq, e8, List.length_append]; (try rfl); done))) | fail)
      · rw [sylL, if_neg (by omega), he]
      · rw [sylL, if_pos (by omega)]
        rw [List.eq_nil_of_length_eq_zero (l := out) (by omega)]

/-! ### the reference -/
def intsN (l : List Nat) : List Int := l.map fun c : Nat => (c : Int)
theorem intsN_cons (c : Nat) (l : List Nat) : intsN (c :: l) = (c : Int) :: intsN l := rfl
theorem intsN_nil : intsN [] = [] := rfl
theorem intsN_len (l : List Nat) : (intsN l).length = l.length := by simp [intsN]
/-- ablaut/ablautref13.begins: 2 parameters, 0 captured -/
def s112 : SC := .seq (.reg [⟨(some 2), .box 37 1 (.t 0), none⟩,
     ⟨(some 4), .mv (.c (.slice none 0 0)), none⟩])
  (.seq (.reg [⟨(some 5), .mv (.c (.slice none 0 0)), none⟩])
   (.seq (.reg [⟨(some 6), .mv (.c (.int .i64 (-1))), none⟩])
    (.seq (.seq (.reg [⟨(some 7), .mv (.c (.int .i64 0)), none⟩])
      (.block 0 (.loop (.seq (.seq (.reg [⟨(some 9), .mv (.t 7), none⟩,
             ⟨(some 10), .mv (.t 1), none⟩,
             ⟨(some 11), .lenL (.t 10), none⟩,
             ⟨(some 12), .bin .lss (.t 9) (.t 11), none⟩])
          (.cond (.t 12) (.skip) (.exit 0)))
         (.seq (.block 1 (.seq (.seq (.regD [⟨(some 15), .load (some 1) (.t 2), none⟩,
                ⟨(some 16), .mv (.t 1), none⟩,
                ⟨(some 17), .mv (.t 7), none⟩,
                ⟨(some 18), .iaddr 1 (.t 16) (.t 17), none⟩,
                ⟨(some 19), .load none (.t 18), none⟩,
                ⟨(some 20), .call (.f 76) [(.t 15), (.t 19)], none⟩,
                ⟨(some 21), .un .not (.t 20), none⟩])
             (.cond (.t 21) (.exit 1) (.skip)))
            (.seq (.seq (.reg [⟨(some 22), .mv (.t 6), none⟩,
                 ⟨(some 23), .bin .geq (.t 22) (.c (.int .i64 0)), none⟩])
              (.cond (.t 23) (.seq (.reg [⟨(some 24), .mv (.t 7), none⟩,
                   ⟨(some 8), .mv (.t 24), none⟩])
                (.seq (.seq (.reg [⟨(some 25), .mv (.t 7), none⟩,
                     ⟨(some 26), .mv (.t 6), none⟩,
                     ⟨(some 27), .bin .sub (.t 25) (.t 26), none⟩,
                     ⟨(some 28), .bin .gtr (.t 27) (.c (.int .i64 1)), none⟩])
                  (.cond (.t 28) (.seq (.reg [⟨(some 29), .mv (.t 7), none⟩,
                       ⟨(some 30), .bin .sub (.t 29) (.c (.int .i64 1)), none⟩,
                       ⟨(some 8), .mv (.t 30), none⟩])
                    (.block 2 (.loop (.seq (.seq (.regD [⟨(some 31), .mv (.t 8), none⟩,
                           ⟨(some 32), .bin .sub (.t 31) (.c (.int .i64 1)), none⟩,
                           ⟨(some 33), .mv (.t 6), none⟩,
                           ⟨(some 34), .bin .gtr (.t 32) (.t 33), none⟩,
                           ⟨(some 35), .mv (.t 34), none⟩,
                           ⟨(some 36), .load (some 1) (.t 2), some (35, true)⟩,
                           ⟨(some 37), .mv (.t 1), some (35, true)⟩,
                           ⟨(some 38), .mv (.t 8), some (35, true)⟩,
                           ⟨(some 39), .bin .sub (.t 38) (.c (.int .i64 1)), some (35, true)⟩,
                           ⟨(some 40), .iaddr 1 (.t 37) (.t 39), some (35, true)⟩,
                           ⟨(some 41), .load none (.t 40), some (35, true)⟩,
                           ⟨(some 42), .call (.f 117) [(.t 36), (.t 41)], some (35, true)⟩,
                           ⟨(some 43), .fld none 1 (.t 42), some (35, true)⟩,
                           ⟨(some 44), .load (some 1) (.t 2), some (35, true)⟩,
                           ⟨(some 45), .mv (.t 1), some (35, true)⟩,
                           ⟨(some 46), .mv (.t 8), some (35, true)⟩,
                           ⟨(some 47), .iaddr 1 (.t 45) (.t 46), some (35, true)⟩,
                           ⟨(some 48), .load none (.t 47), some (35, true)⟩,
                           ⟨(some 49), .call (.f 117) [(.t 44), (.t 48)], some (35, true)⟩,
                           ⟨(some 50), .fld none 1 (.t 49), some (35, true)⟩,
                           ⟨(some 51), .bin .lss (.t 43) (.t 50), some (35, true)⟩,
                           ⟨(some 52), .pick (.t 35) (.t 51) (.c (.bool false)), none⟩])
                        (.cond (.t 52) (.skip) (.exit 2)))
                       (.block 3 (.reg [⟨(some 53), .mv (.t 8), none⟩,
                           ⟨(some 54), .bin .sub (.t 53) (.c (.int .i64 1)), none⟩,
                           ⟨(some 8), .mv (.t 54), none⟩])))))) (.skip)))
                 (.reg [⟨(some 55), .mv (.t 5), none⟩,
                    ⟨(some 56), .mv (.t 8), none⟩,
                    ⟨(some 57), .buildSl 3 1 1 [(.int .i64 0)] [(0, 1, (.t 56))], none⟩,
                    ⟨(some 58), .app 3 1 8 (.t 55) (.t 57), none⟩,
                    ⟨(some 5), .mv (.t 58), none⟩]))) (.skip)))
             (.reg [⟨(some 59), .mv (.t 7), none⟩,
                ⟨(some 6), .mv (.t 59), none⟩]))))
          (.reg [⟨(some 13), .mv (.t 7), none⟩,
             ⟨(some 14), .bin .add (.t 13) (.c (.int .i64 1)), none⟩,
             ⟨(some 7), .mv (.t 14), none⟩]))))))
     (.seq (.reg [⟨(some 60), .mv (.t 5), none⟩,
         ⟨(some 4), .mv (.t 60), none⟩])
      (.ret)))))
theorem s112_ok : lookF Try.prog 112 = some (s112, 61, [.tmp 4]) := by kernel_rfl
set_option maxHeartbeats 2000000 in
theorem begins_ok (l : List Sound) (w : List Str) (hw : w.length ≤ 1000000) : Fn P 112 [sndA l, sl w] (sl (intsN (cutsF (vowR l) (louR l) w 0 (-1) w.length))) := by
  (refine fn_look s112_ok (by simp) (by intro k; simp only [go_sem, Nat.reduceEqDiff, ↓reduceIte, reduceCtorEq, Nat.reduceAdd, Nat.reduceMul, Int.reduceToNat, List.reduceReplicate, Nat.reduceLeDiff, Nat.reduceLT, Int.reduceLT, Int.reduceLE, Int.reduceEq]) fun S hS => cwp_sound _ _ _ _ ?_; simp (disch := omega) only [s112, go_sem, Nat.reduceEqDiff, ↓reduceIte, reduceCtorEq, Nat.reduceAdd, Nat.reduceMul, Int.reduceToNat, List.reduceReplicate, Nat.reduceLeDiff, Nat.reduceLT, Int.reduceLT, Int.reduceLE, Int.reduceEq])
  repeat' (first | (with_reducible refine in_seq ?_) | (with_reducible refine in_reg ?_) | (with_reducible refine in_block ?_) | (with_reducible refine in_cond ?_) | (with_reducible refine in_ret ?_) | (with_reducible refine in_skip ?_) | (simp (disch := omega) only [go_sem, Nat.reduceEqDiff, ↓reduceIte, reduceCtorEq, Nat.reduceAdd, Nat.reduceMul, Int.reduceToNat, List.reduceReplicate, Nat.reduceLeDiff, Nat.reduceLT, Int.reduceLT, Int.reduceLE, Int.reduceEq]) | (with_reducible refine giv_intro fun _h => ?_) | (with_reducible refine alt_intro ?_ (fun _h => ?_)) | ((first | with_reducible refine br_dec (fun _h => ?_) (fun _h => ?_) | with_reducible refine br_ndec (fun _h => ?_) (fun _h => ?_)) <;> (first | (exfalso; omega) | simp only [decide_eq_false _h] | simp only [decide_eq_true _h] | skip)) | ((first | with_reducible refine br_not (fun _h => ?_) (fun _h => ?_) | with_reducible refine br_var (fun _h => ?_) (fun _h => ?_)) <;> (try simp only [_h])) | fail)
  refine nil_row 5 3 1 (by simp (disch := omega) only [go_sem, Nat.reduceEqDiff, ↓reduceIte, reduceCtorEq, Nat.reduceAdd, Nat.reduceMul, Int.reduceToNat, List.reduceReplicate, Nat.reduceLeDiff, Nat.reduceLT, Int.reduceLT, Int.reduceLE, Int.reduceEq]) ?_
  (refine loopC hS [1, 2] (by simp only [go_sem, Nat.reduceEqDiff, ↓reduceIte, reduceCtorEq, Nat.reduceAdd, Nat.reduceMul, Int.reduceToNat, List.reduceReplicate, Nat.reduceLeDiff, Nat.reduceLT, Int.reduceLT, Int.reduceLE, Int.reduceEq]; try rfl) (fun (⟨i, last, out⟩ : Nat × Int × List Int) => [(5, own S 1 out), (6, intA last), (7, intA i)]) (fun (⟨i, last, out⟩ : Nat × Int × List Int) => [some (.row 37 1 [sl l]), rowO 3 out]) (fun (⟨i, last, out⟩ : Nat × Int × List Int) => i ≤ w.length ∧ -1 ≤ last ∧ last < i ∧ out.length ≤ i ∧ intsN (cutsF (vowR l) (louR l) w 0 (-1) w.length) = out ++ intsN (cutsF (vowR l) (louR l) w i last (w.length - i))) (fun (⟨i, last, out⟩ : Nat × Int × List Int) => w.length - i) ((0, -1, [])) ?h03 ?hn3 ?rd3; case hn3 => (intro s; first | rfl | (rcases s with ⟨_, _⟩; rfl) | (rcases s with ⟨_, _, _⟩; rfl) | (rcases s with ⟨_, _, _, _⟩; rfl) | (rcases s with ⟨_, _, _, _, _⟩; rfl)))
  · simp (disch := omega) only [go_sem, Nat.reduceEqDiff, ↓reduceIte, reduceCtorEq, Nat.reduceAdd, Nat.reduceMul, Int.reduceToNat, List.reduceReplicate, Nat.reduceLeDiff, Nat.reduceLT, Int.reduceLT, Int.reduceLE, Int.reduceEq]
    simp
  · rintro ⟨i, last, out⟩ ⟨a1, a2, a3, a4, a5⟩
    replace a1 : i ≤ w.length := a1
    replace a2 : -1 ≤ last := a2
    replace a3 : last < i := a3
    replace a4 : out.length ≤ i := a4
    replace a5 : intsN (cutsF (vowR l) (louR l) w 0 (-1) w.length) = out ++ intsN (cutsF (vowR l) (louR l) w i last (w.length - i)) := a5
    by_cases hi : i < w.length
    · rw [show w.length - i = (w.length - (i + 1)) + 1 by omega, cutsF] at a5
      have d1 := isVowel_ok l (nth w i)
      repeat' (first | (with_reducible refine in_seq ?_) | (with_reducible refine in_reg ?_) | (with_reducible refine in_block ?_) | (with_reducible refine in_cond ?_) | (with_reducible refine in_ret ?_) | (with_reducible refine in_skip ?_) | (simp (disch := omega) only [go_sem, Nat.reduceEqDiff, ↓reduceIte, reduceCtorEq, Nat.reduceAdd, Nat.reduceMul, Int.reduceToNat, List.reduceReplicate, Nat.reduceLeDiff, Nat.reduceLT, Int.reduceLT, Int.reduceLE, Int.reduceEq]) | (with_reducible refine giv_intro fun _h => ?_) | (with_reducible refine alt_intro ?_ (fun _h => ?_)) | ((first | with_reducible refine br_dec (fun _h => ?_) (fun _h => ?_) | with_reducible refine br_ndec (fun _h => ?_) (fun _h => ?_)) <;> (first | (exfalso; omega) | simp only [decide_eq_false _h] | simp only [decide_eq_true _h] | skip)) | ((first | with_reducible refine br_not (fun _h => ?_) (fun _h => ?_) | with_reducible refine br_var (fun _h => ?_) (fun _h => ?_)) <;> (try simp only [_h])) | ((with_reducible apply call_D (d1)); (focus (simp (disch := omega) only [go_sem, Nat.reduceEqDiff, ↓reduceIte, reduceCtorEq, Nat.reduceAdd, Nat.reduceMul, Int.reduceToNat, List.reduceReplicate, Nat.reduceLeDiff, Nat.reduceLT, Int.reduceLT, Int.reduceLE, Int.reduceEq]; (try rfl); done))) | fail)
      · rw [if_neg (by rw [_h]; simp)] at a5
        refine ⟨(i + 1, last, out), ?_⟩
        dsimp only
        exact ⟨⟨by omega, by omega, by omega, by omega, by omega, a5⟩, ⟨⟨rfl, rfl⟩, rfl, by omega⟩, rfl⟩
      · rename_i hv h0
        have hl : 0 ≤ last := by omega
        rw [if_pos (by assumption), if_pos hl] at a5
        (refine loopC hS [1, 2, 5, 6, 7] (by simp only [go_sem, Nat.reduceEqDiff, ↓reduceIte, reduceCtorEq, Nat.reduceAdd, Nat.reduceMul, Int.reduceToNat, List.reduceReplicate, Nat.reduceLeDiff, Nat.reduceLT, Int.reduceLT, Int.reduceLE, Int.reduceEq]; try rfl) (fun (c : Nat) => [(8, intA c)]) (fun (c : Nat) => [some (.row 37 1 [sl l]), rowO 3 out]) (fun (c : Nat) => Down (louR l) w last i c ∧ c < i) (fun (c : Nat) => c) (i - 1) ?h04 ?hn4 ?rd4; case hn4 => (intro s; first | rfl | (rcases s with ⟨_, _⟩; rfl) | (rcases s with ⟨_, _, _⟩; rfl) | (rcases s with ⟨_, _, _, _⟩; rfl) | (rcases s with ⟨_, _, _, _, _⟩; rfl)))
        · simp (disch := omega) only [go_sem, Nat.reduceEqDiff, ↓reduceIte, reduceCtorEq, Nat.reduceAdd, Nat.reduceMul, Int.reduceToNat, List.reduceReplicate, Nat.reduceLeDiff, Nat.reduceLT, Int.reduceLT, Int.reduceLE, Int.reduceEq]
          have h0 : Down (louR l) w last i i := ⟨by omega, by omega, .inl rfl⟩
          exact ⟨⟨h0.step hl a3 (by omega) (.inl rfl), by omega⟩, by omega⟩
        · rintro c ⟨hc, hci⟩
          replace hc : Down (louR l) w last i c := hc
          replace hci : c < i := hci
          obtain ⟨b1, b2, b3⟩ := id hc
          have e1 : ((c : Int) - 1).toNat = c - 1 := by omega
          have e2 : c - 1 < w.length := by omega
          have d2 := rRow_ok l (nth w (c - 1))
          have d3 := rRow_ok l (nth w c)
          repeat' (first | (with_reducible refine in_seq ?_) | (with_reducible refine in_reg ?_) | (with_reducible refine in_block ?_) | (with_reducible refine in_cond ?_) | (with_reducible refine in_ret ?_) | (with_reducible refine in_skip ?_) | (simp (disch := omega) only [go_sem, Nat.reduceEqDiff, ↓reduceIte, reduceCtorEq, Nat.reduceAdd, Nat.reduceMul, Int.reduceToNat, List.reduceReplicate, Nat.reduceLeDiff, Nat.reduceLT, Int.reduceLT, Int.reduceLE, Int.reduceEq, e1, List.length_append]) | (with_reducible refine giv_intro fun _h => ?_) | (with_reducible refine alt_intro ?_ (fun _h => ?_)) | ((first | with_reducible refine br_dec (fun _h => ?_) (fun _h => ?_) | with_reducible refine br_ndec (fun _h => ?_) (fun _h => ?_)) <;> (first | (exfalso; omega) | simp only [decide_eq_false _h] | simp only [decide_eq_true _h] | skip)) | ((first | with_reducible refine br_not (fun _h => ?_) (fun _h => ?_) | with_reducible refine br_var (fun _h => ?_) (fun _h => ?_)) <;> (try simp only [_h])) | ((with_reducible apply call_D (d2)); (focus (simp (disch := omega) only [go_sem, Nat.reduceEqDiff, ↓reduceIte, reduceCtorEq, Nat.reduceAdd, Nat.reduceMul, Int.reduceToNat, List.reduceReplicate, Nat.reduceLeDiff, Nat.reduceLT, Int.reduceLT, Int.reduceLE, Int.reduceEq, e1, List.length_append]; (try rfl); done))) | ((with_reducible apply call_D (d3)); (focus (simp (disch := omega) only [go_sem, Nat.reduceEqDiff, ↓reduceIte, reduceCtorEq, Nat.reduceAdd, Nat.reduceMul, Int.reduceToNat, List.reduceReplicate, Nat.reduceLeDiff, Nat.reduceLT, Int.reduceLT, Int.reduceLE, Int.reduceEq, e1, List.length_append]; (try rfl); done))) | fail)
          · exact ⟨c - 1, ⟨by omega, hc.step hl a3 (by omega) (.inr _h), by omega⟩, by omega⟩
          all_goals
            have hcut : c = cutF (louR l) w last i := hc.done hl (by first | (left; omega) | exact .inr ⟨by omega, _h⟩)
            rw [← hcut, intsN_cons] at a5
            refine ⟨(i + 1, i, out ++ [(c : Int)]), ?_⟩
            dsimp only
            exact ⟨⟨by omega, by omega, by omega, by omega, by simp; omega, by rw [a5]; simp⟩, ⟨⟨by simp, by simp⟩, rfl, by omega⟩, rfl⟩
      · rw [if_pos (by assumption), if_pos (by assumption)] at a5
        have hcut : i = cutF (louR l) w last i := by rw [cutF, if_neg (by omega)]
        rw [← hcut, intsN_cons] at a5
        refine ⟨(i + 1, i, out ++ [(i : Int)]), ?_⟩
        dsimp only
        exact ⟨⟨by omega, by omega, by omega, by omega, by simp; omega, by rw [a5]; simp⟩, ⟨⟨by simp, by simp⟩, rfl, by omega⟩, rfl⟩
      · rw [if_pos (by assumption), if_neg (by assumption)] at a5
        refine ⟨(i + 1, i, out), ?_⟩
        dsimp only
        exact ⟨⟨by omega, by omega, by omega, by omega, by omega, a5⟩, ⟨⟨rfl, rfl⟩, rfl, by omega⟩, rfl⟩
    · have hl : w.length - i = 0 := by omega
      rw [hl, cutsF, intsN_nil, List.append_nil] at a5
      repeat' (first | (with_reducible refine in_seq ?_) | (with_reducible refine in_reg ?_) | (with_reducible refine in_block ?_) | (with_reducible refine in_cond ?_) | (with_reducible refine in_ret ?_) | (with_reducible refine in_skip ?_) | (simp (disch := omega) only [go_sem, Nat.reduceEqDiff, ↓reduceIte, reduceCtorEq, Nat.reduceAdd, Nat.reduceMul, Int.reduceToNat, List.reduceReplicate, Nat.reduceLeDiff, Nat.reduceLT, Int.reduceLT, Int.reduceLE, Int.reduceEq]) | (with_reducible refine giv_intro fun _h => ?_) | (with_reducible refine alt_intro ?_ (fun _h => ?_)) | ((first | with_reducible refine br_dec (fun _h => ?_) (fun _h => ?_) | with_reducible refine br_ndec (fun _h => ?_) (fun _h => ?_)) <;> (first | (exfalso; omega) | simp only [decide_eq_false _h] | simp only [decide_eq_true _h] | skip)) | ((first | with_reducible refine br_not (fun _h => ?_) (fun _h => ?_) | with_reducible refine br_var (fun _h => ?_) (fun _h => ?_)) <;> (try simp only [_h])) | fail)
      rw [a5]
theorem nth_intsN (l : List Nat) {i : Nat} (h : i < l.length) : nth (intsN l) i = (l[i] : Nat) := by
  rw [nth_eq (by rw [intsN_len]; exact h)]; simp [intsN]
theorem drop_nat {l : List Nat} {i : Nat} (h : i < l.length) : l.drop i = l[i] :: l.drop (i + 1) := (List.getElem_cons_drop h).symm
/-- ablaut/ablautref13.syllables: 2 parameters, 0 captured -/
def s66 : SC := .seq (.reg [⟨(some 2), .box 37 1 (.t 0), none⟩,
     ⟨(some 4), .mv (.c (.slice none 0 0)), none⟩])
  (.seq (.reg [⟨(some 5), .mv (.c (.slice none 0 0)), none⟩])
   (.seq (.reg [⟨(some 6), .mv (.c (.int .i64 0)), none⟩])
    (.seq (.reg [⟨(some 9), .load (some 1) (.t 2), none⟩,
        ⟨(some 10), .mv (.t 1), none⟩,
        ⟨(some 11), .call (.f 112) [(.t 9), (.t 10)], none⟩,
        ⟨(some 7), .mv (.t 11), none⟩])
     (.seq (.seq (.reg [⟨(some 8), .mv (.c (.int .i64 0)), none⟩])
       (.block 0 (.loop (.seq (.seq (.reg [⟨(some 12), .mv (.t 8), none⟩,
              ⟨(some 13), .mv (.t 7), none⟩,
              ⟨(some 14), .lenL (.t 13), none⟩,
              ⟨(some 15), .bin .lss (.t 12) (.t 14), none⟩])
           (.cond (.t 15) (.skip) (.exit 0)))
          (.seq (.block 1 (.seq (.reg [⟨(some 18), .mv (.t 5), none⟩,
                ⟨(some 19), .mv (.t 1), none⟩,
                ⟨(some 20), .mv (.t 6), none⟩,
                ⟨(some 21), .mv (.t 7), none⟩,
                ⟨(some 22), .mv (.t 8), none⟩,
                ⟨(some 23), .iaddr 1 (.t 21) (.t 22), none⟩,
                ⟨(some 24), .load none (.t 23), none⟩,
                ⟨(some 25), .sl 1 (.t 19) (some (.t 20)) (some (.t 24)), none⟩,
                ⟨(some 26), .call (.f 28) [(.t 25), (.c (.slice none 0 0))], none⟩,
                ⟨(some 27), .buildSl 22 1 1 [(.slice none 0 0)] [(0, 1, (.t 26))], none⟩,
                ⟨(some 28), .app 22 1 24 (.t 18) (.t 27), none⟩,
                ⟨(some 5), .mv (.t 28), none⟩])
             (.reg [⟨(some 29), .mv (.t 7), none⟩,
                ⟨(some 30), .mv (.t 8), none⟩,
                ⟨(some 31), .iaddr 1 (.t 29) (.t 30), none⟩,
                ⟨(some 32), .load none (.t 31), none⟩,
                ⟨(some 6), .mv (.t 32), none⟩])))
           (.reg [⟨(some 16), .mv (.t 8), none⟩,
              ⟨(some 17), .bin .add (.t 16) (.c (.int .i64 1)), none⟩,
              ⟨(some 8), .mv (.t 17), none⟩]))))))
      (.seq (.seq (.reg [⟨(some 33), .mv (.t 1), none⟩,
           ⟨(some 34), .lenL (.t 33), none⟩,
           ⟨(some 35), .bin .gtr (.t 34) (.c (.int .i64 0)), none⟩])
        (.cond (.t 35) (.reg [⟨(some 36), .mv (.t 5), none⟩,
            ⟨(some 37), .mv (.t 1), none⟩,
            ⟨(some 38), .mv (.t 6), none⟩,
            ⟨(some 39), .sl 1 (.t 37) (some (.t 38)) none, none⟩,
            ⟨(some 40), .call (.f 28) [(.t 39), (.c (.slice none 0 0))], none⟩,
            ⟨(some 41), .buildSl 22 1 1 [(.slice none 0 0)] [(0, 1, (.t 40))], none⟩,
            ⟨(some 42), .app 22 1 24 (.t 36) (.t 41), none⟩,
            ⟨(some 5), .mv (.t 42), none⟩]) (.skip)))
       (.seq (.reg [⟨(some 43), .mv (.t 5), none⟩,
           ⟨(some 4), .mv (.t 43), none⟩])
        (.ret)))))))
theorem s66_ok : lookF Try.prog 66 = some (s66, 44, [.tmp 4]) := by kernel_rfl
set_option maxHeartbeats 2000000 in
theorem rSyllables_ok (l : List Sound) (w : List Str) (hw : w.length ≤ 1000000) : Fn P 66 [sndA l, sl w] (sl (sylL (vowR l) (louR l) w)) := by
  have c0 := begins_ok l w hw
  have hk := cuts_ok (vowR l) (louR l) w w.length 0 (-1) 0 (by omega) (by omega) (by omega) (by omega) (by omega)
  have hcl := cuts_len (vowR l) (louR l) w w.length 0 (-1)
  have hsy : sylL (vowR l) (louR l) w = if w.length = 0 then [] else pieces w 0 (cutsF (vowR l) (louR l) w 0 (-1) w.length) := rfl
  generalize hcs : cutsF (vowR l) (louR l) w 0 (-1) w.length = cs at *
  have hil : (intsN cs).length = cs.length := intsN_len cs
  rw [hsy]
  (refine fn_look s66_ok (by simp) (by intro k; simp only [go_sem, Nat.reduceEqDiff, ↓reduceIte, reduceCtorEq, Nat.reduceAdd, Nat.reduceMul, Int.reduceToNat, List.reduceReplicate, Nat.reduceLeDiff, Nat.reduceLT, Int.reduceLT, Int.reduceLE, Int.reduceEq]) fun S hS => cwp_sound _ _ _ _ ?_; simp (disch := omega) only [s66, go_sem, Nat.reduceEqDiff, ↓reduceIte, reduceCtorEq, Nat.reduceAdd, Nat.reduceMul, Int.reduceToNat, List.reduceReplicate, Nat.reduceLeDiff, Nat.reduceLT, Int.reduceLT, Int.reduceLE, Int.reduceEq])
  repeat' (first | (with_reducible refine in_seq ?_) | (with_reducible refine in_reg ?_) | (with_reducible refine in_block ?_) | (with_reducible refine in_cond ?_) | (with_reducible refine in_ret ?_) | (with_reducible refine in_skip ?_) | (simp (disch := omega) only [go_sem, Nat.reduceEqDiff, ↓reduceIte, reduceCtorEq, Nat.reduceAdd, Nat.reduceMul, Int.reduceToNat, List.reduceReplicate, Nat.reduceLeDiff, Nat.reduceLT, Int.reduceLT, Int.reduceLE, Int.reduceEq]) | (with_reducible refine giv_intro fun _h => ?_) | (with_reducible refine alt_intro ?_ (fun _h => ?_)) | ((first | with_reducible refine br_dec (fun _h => ?_) (fun _h => ?_) | with_reducible refine br_ndec (fun _h => ?_) (fun _h => ?_)) <;> (first | (exfalso; omega) | simp only [decide_eq_false _h] | simp only [decide_eq_true _h] | skip)) | ((first | with_reducible refine br_not (fun _h => ?_) (fun _h => ?_) | with_reducible refine br_var (fun _h => ?_) (fun _h => ?_)) <;> (try simp only [_h])) | ((with_reducible apply call (c0)); (focus (simp (disch := omega) only [go_sem, Nat.reduceEqDiff, ↓reduceIte, reduceCtorEq, Nat.reduceAdd, Nat.reduceMul, Int.reduceToNat, List.reduceReplicate, Nat.reduceLeDiff, Nat.reduceLT, Int.reduceLT, Int.reduceLE, Int.reduceEq]; (try rfl); done))) | fail)
  refine nil_row 5 22 1 (by simp (disch := omega) only [go_sem, Nat.reduceEqDiff, ↓reduceIte, reduceCtorEq, Nat.reduceAdd, Nat.reduceMul, Int.reduceToNat, List.reduceReplicate, Nat.reduceLeDiff, Nat.reduceLT, Int.reduceLT, Int.reduceLE, Int.reduceEq]) ?_
  (refine loopC hS [1, 7] (by simp only [go_sem, Nat.reduceEqDiff, ↓reduceIte, reduceCtorEq, Nat.reduceAdd, Nat.reduceMul, Int.reduceToNat, List.reduceReplicate, Nat.reduceLeDiff, Nat.reduceLT, Int.reduceLT, Int.reduceLE, Int.reduceEq]; try rfl) (fun (⟨i, a, out⟩ : Nat × Nat × List (List Str)) => [(5, own S 1 out), (6, intA a), (8, intA i)]) (fun (⟨i, a, out⟩ : Nat × Nat × List (List Str)) => [none, rowO 22 out]) (fun (⟨i, a, out⟩ : Nat × Nat × List (List Str)) => i ≤ cs.length ∧ out.length ≤ i ∧ okC w a (cs.drop i) ∧ pieces w 0 cs = out ++ pieces w a (cs.drop i)) (fun (⟨i, a, out⟩ : Nat × Nat × List (List Str)) => cs.length - i) ((0, 0, [])) ?h05 ?hn5 ?rd5; case hn5 => (intro s; first | rfl | (rcases s with ⟨_, _⟩; rfl) | (rcases s with ⟨_, _, _⟩; rfl) | (rcases s with ⟨_, _, _, _⟩; rfl) | (rcases s with ⟨_, _, _, _, _⟩; rfl)))
  · simp (disch := omega) only [go_sem, Nat.reduceEqDiff, ↓reduceIte, reduceCtorEq, Nat.reduceAdd, Nat.reduceMul, Int.reduceToNat, List.reduceReplicate, Nat.reduceLeDiff, Nat.reduceLT, Int.reduceLT, Int.reduceLE, Int.reduceEq]
    exact ⟨Nat.zero_le _, hk⟩
  · rintro ⟨i, a, out⟩ ⟨a1, a2, a3, a4⟩
    replace a1 : i ≤ cs.length := a1
    replace a2 : out.length ≤ i := a2
    replace a3 : okC w a (cs.drop i) := a3
    replace a4 : pieces w 0 cs = out ++ pieces w a (cs.drop i) := a4
    by_cases hi : i < cs.length
    · rw [drop_nat hi] at a3 a4
      obtain ⟨q1, q2, q3⟩ := a3
      have en := nth_intsN cs hi
      have k1 := join_ok (List.take (cs[i] - a) (List.drop a w)) [] (by simp; omega)
      rw [List.append_nil] at k1
      repeat' (first | (with_reducible refine in_seq ?_) | (with_reducible refine in_reg ?_) | (with_reducible refine in_block ?_) | (with_reducible refine in_cond ?_) | (with_reducible refine in_ret ?_) | (with_reducible refine in_skip ?_) | (simp (disch := omega) only [go_sem, Nat.reduceEqDiff, ↓reduceIte, reduceCtorEq, Nat.reduceAdd, Nat.reduceMul, Int.reduceToNat, List.reduceReplicate, Nat.reduceLeDiff, Nat.reduceLT, Int.reduceLT, Int.reduceLE, Int.reduceEq, en, List.length_append]) | (with_reducible refine giv_intro fun _h => ?_) | (with_reducible refine alt_intro ?_ (fun _h => ?_)) | ((first | with_reducible refine br_dec (fun _h => ?_) (fun _h => ?_) | with_reducible refine br_ndec (fun _h => ?_) (fun _h => ?_)) <;> (first | (exfalso; omega) | simp only [decide_eq_false _h] | simp only [decide_eq_true _h] | skip)) | ((first | with_reducible refine br_not (fun _h => ?_) (fun _h => ?_) | with_reducible refine br_var (fun _h => ?_) (fun _h => ?_)) <;> (try simp only [_h])) | ((with_reducible apply call (k1)); (focus (simp (disch := omega) only [go_sem, Nat.reduceEqDiff, ↓reduceIte, reduceCtorEq, Nat.reduceAdd, Nat.reduceMul, Int.reduceToNat, List.reduceReplicate, Nat.reduceLeDiff, Nat.reduceLT, Int.reduceLT, Int.reduceLE, Int.reduceEq, en, List.length_append]; (try rfl); done))) | fail)
      refine ⟨(i + 1, cs[i], out ++ [List.take (cs[i] - a) (List.drop a w)]), ?_⟩
      dsimp only
      exact ⟨⟨by omega, by omega, by simp; omega, q3, by rw [a4, pieces, List.drop_take]; simp⟩, ⟨⟨by simp, by simp⟩, rfl, by omega⟩, rfl⟩
    · rw [drop_end (l := cs) (by omega)] at a3 a4
      replace a3 : a ≤ w.length := a3
      rw [pieces] at a4
      have e9 : (out ++ [List.drop a w]).length = out.length + 1 := by simp
      have e8 : List.take (w.length - a) (List.drop a w) = List.drop a w := List.take_of_length_le (by simp)
      have k1 := join_ok (List.drop a w) [] (by simp; omega)
      rw [List.append_nil] at k1
      repeat' (first | (with_reducible refine in_seq ?_) | (with_reducible refine in_reg ?_) | (with_reducible refine in_block ?_) | (with_reducible refine in_cond ?_) | (with_reducible refine in_ret ?_) | (with_reducible refine in_skip ?_) | (simp (disch := omega) only [go_sem, Nat.reduceEqDiff, ↓reduceIte, reduceCtorEq, Nat.reduceAdd, Nat.reduceMul, Int.reduceToNat, List.reduceReplicate, Nat.reduceLeDiff, Nat.reduceLT, Int.reduceLT, Int.reduceLE, Int.reduceEq, e8, List.length_append]) | (with_reducible refine giv_intro fun _h => ?_) | (with_reducible refine alt_intro ?_ (fun _h => ?_)) | ((first | with_reducible refine br_dec (fun _h => ?_) (fun _h => ?_) | with_reducible refine br_ndec (fun _h => ?_) (fun _h => ?_)) <;> (first | (exfalso; omega) | simp only [decide_eq_false _h] | simp only [decide_eq_true _h] | skip)) | ((first | with_reducible refine br_not (fun _h => ?_) (fun _h => ?_) | with_reducible refine br_var (fun _h => ?_) (fun _h => ?_)) <;> (try simp only [_h])) | ((with_reducible apply call (k1)); (focus (simp (disch := omega) only [go_sem, Nat.reduceEqDiff, ↓reduceIte, reduceCtorEq, Nat.reduceAdd, Nat.reduceMul, Int.reduceToNat, List.reduceReplicate, Nat.reduceLeDiff, Nat.reduceLT, Int.reduceLT, Int.reduceLE, Int.reduceEq, e8, List.length_append]; (try rfl); done))) | fail)
      · rw [if_neg (by omega), a4]
      · rw [if_pos (by omega), List.eq_nil_of_length_eq_zero (l := out) (by omega)]
end Go.Proofs.Ytpfoflhhbkjngaa.Ev

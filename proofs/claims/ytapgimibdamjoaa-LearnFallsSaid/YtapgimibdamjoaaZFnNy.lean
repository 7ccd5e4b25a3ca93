/- What is learnt, plainly: each change makes so many right, and none is left that would. -/
import Derived.Test.YtapgimibdamjoaaZFnNx
set_option linter.unusedVariables false
set_option linter.unusedSimpArgs false
namespace Go.Proofs.Ytapgimibdamjoaa.Ev
open Go Go.Proofs Go.RowKit

def chgs (c : List Change) (ls : List Lesson) : List Lesson := c.foldl (fun l c => chgL c l) ls
theorem chgs_len : ∀ (c : List Change) (ls : List Lesson), (chgs c ls).length = ls.length
  | [], _ => rfl
  | a :: c, ls => by
    show (chgs c (chgL a ls)).length = _
    rw [chgs_len c, chgL, List.length_map]
theorem chgs_app (a b : List Change) (ls : List Lesson) : chgs (a ++ b) ls = chgs b (chgs a ls) := List.foldl_append
theorem chgs_step {c : List Change} {i : Nat} (h : i < c.length) (ls : List Lesson) : chgs (c.take (i + 1)) ls = chgL (nth c i) (chgs (c.take i) ls) := by
  rw [List.take_add_one, nth_get? h, chgs_app]; rfl
theorem nth_chgL {c : Change} {ls : List Lesson} {i : Nat} (h : i < ls.length) : nth (chgL c ls) i = chgX c (nth ls i) := by
  rw [nth_eq (by rw [chgL, List.length_map]; exact h), nth_eq h]
  simp [chgL]
theorem wrong_cons (c : Change) (l : List Change) (ls : List Lesson) : wrongL (c :: l) ls = wrongL l (chgL c ls) := by
  have key : ∀ i, i ≤ ls.length → wrF (c :: l) ls i = wrF l (chgL c ls) i := by
    intro i
    induction i with
    | zero => intro _; rfl
    | succ i ih =>
      intro hi
      rw [wrF, wrF, ih (by omega), nth_chgL (by omega)]
      congr 1
      show misN (runL l _ (doneL c _ _)) _ _ = misN (runL l _ (doneL c _ _)) _ (doneL c _ _).length
      rw [doneL_len]; rfl
  rw [wrongL, wrongL, key _ (Nat.le_refl _), chgL, List.length_map]
theorem wrong_app : ∀ (a b : List Change) (ls : List Lesson), wrongL (a ++ b) ls = wrongL b (chgs a ls)
  | [], b, ls => rfl
  | c :: a, b, ls => by
    rw [List.cons_append, wrong_cons, wrong_app a b]; rfl
theorem wrong_take {c : List Change} (i : Nat) (ls : List Lesson) : wrongL (c.take i) ls = wrongL [] (chgs (c.take i) ls) := by
  have := wrong_app (c.take i) [] ls
  rwa [List.append_nil] at this
theorem wrong_step {c : List Change} {i : Nat} (h : i < c.length) (ls : List Lesson) : wrongL (c.take (i + 1)) ls = wrongL [nth c i] (chgs (c.take i) ls) := by
  rw [List.take_add_one, nth_get? h]; exact wrong_app _ _ ls
/-- What is learnt: at each place the best change, as long as it is good enough. -/
structure Learnt (least : Int) (n : Nat) (ls : List Lesson) (c : List Change) : Prop where
  len : c.length ≤ n
  is : ∀ i, i < c.length → nth c i = (bestL (chgs (c.take i) ls)).1 ∧ least ≤ (bestL (chgs (c.take i) ls)).2
  stop : c.length < n → (bestL (chgs c ls)).2 < least
theorem learnt (least : Int) : ∀ (n : Nat) (ls : List Lesson), Learnt least n ls (learnS least n ls)
  | 0, ls => ⟨Nat.le_refl _, fun i hi => by simp [learnS] at hi, fun h => by simp [learnS] at h⟩
  | n + 1, ls => by
    rw [learnS]
    split
    · rename_i hb
      exact ⟨Nat.zero_le _, fun i hi => by simp at hi, fun _ => hb⟩
    · rename_i hb
      have ih := learnt least n (chgL (bestL ls).1 ls)
      refine ⟨by simp only [List.length_cons]; have := ih.len; omega, fun i hi => ?_, fun h => ?_⟩
      · cases i with
        | zero => exact ⟨rfl, by show least ≤ (bestL ls).2; omega⟩
        | succ i => exact ih.is i (by simpa using hi)
      · exact ih.stop (by simpa using h)
theorem valid_all {least : Int} {n : Nat} {ls : List Lesson} {c : List Change} (h : Learnt least n ls c) (hl : 1 ≤ least) (hv : valL ls = 0) (hs : SmLs ls) : ∀ i, i ≤ c.length → valL (chgs (c.take i) ls) = 0 ∧ SmLs (chgs (c.take i) ls)
  | 0, _ => ⟨hv, hs⟩
  | i + 1, hi => by
    obtain ⟨a, b⟩ := valid_all h hl hv hs i (by omega)
    obtain ⟨q1, q2⟩ := h.is i (by omega)
    obtain ⟨b1, b2, b3, b4, b5, _⟩ := best_ch a b (by omega)
    rw [chgs_step (by omega), q1]
    exact val_chg a b b3 b5.2.1
theorem arg_small {ls : List Lesson} (hv : valL ls = 0) (hs : SmLs ls) (hb : 0 < (bestL ls).2) : (bestL ls).1.2.2.2.size ≤ 400 := by
  obtain ⟨b1, b2, b3, b4, b5, b6⟩ := best_ch hv hs hb
  have h1 := gain_le_hits (c := (bestL ls).1) (okLs hv)
  have h2 : hits (bestL ls).1 ls ≠ 0 := by intro e; rw [e, b6] at h1; omega
  have hm : (bestL ls).1 ∈ gLs ls ls.length := by
    by_cases q : (bestL ls).1 ∈ gLs ls ls.length
    · exact q
    · exact absurd ((count_gL b1 ls _).symm.trans (cntK_zero.2 q)) h2
  obtain ⟨x, hx, k, hk, e1, e2, e3⟩ := mem_gL hm (Nat.le_refl _)
  obtain ⟨g1, g2, g3⟩ := (valL_ok hv).2 x hx
  rcases mem_args e3 with ⟨_, e⟩ | ⟨_, e⟩
  · rw [e]; exact Nat.zero_le _
  · split at e
    · rw [longL, Bool.or_eq_false_iff] at g1
      have := g1.2
      rw [List.any_eq_false] at this
      have := this _ e
      simpa using this
    · rw [nmL, Bool.and_eq_true] at g3
      have := List.all_eq_true.1 g3.1 _ e
      rw [nameB, Bool.and_eq_true, Bool.and_eq_true, decide_eq_true_eq, decide_eq_true_eq] at this
      omega
theorem best_chB {ls : List Lesson} (hv : valL ls = 0) (hs : SmLs ls) (hb : 0 < (bestL ls).2) : chB (bestL ls).1 = true := by
  obtain ⟨b1, b2, b3, b4, b5, b6⟩ := best_ch hv hs hb
  rw [chB, b2, b3, decide_eq_false b4, decide_eq_true b1.1.1, decide_eq_true b1.1.2, b1.2]; rfl
theorem valC_of {l : List Change} (h1 : l.length ≤ 24) (h2 : ∀ c ∈ l, chB c = true ∧ c.2.2.2.size ≤ 400) : valC l = 0 := by
  rw [valC, if_neg (by omega), if_neg, if_pos (List.all_eq_true.2 fun c hc => (h2 c hc).1)]
  rw [Bool.not_eq_true, longC]
  refine List.any_eq_false.2 fun c hc => ?_
  have := (h2 c hc).2
  simpa using this
theorem learnt_ch {least : Int} {n : Nat} {ls : List Lesson} {c : List Change} (h : Learnt least n ls c) (hl : 1 ≤ least) (hv : valL ls = 0) (hs : SmLs ls) : ∀ x ∈ c, (chB x = true ∧ x.2.2.2.size ≤ 400) ∧ SmC x := fun x hx => by
  obtain ⟨i, hi, rfl⟩ := List.getElem_of_mem hx
  obtain ⟨a, b⟩ := valid_all h hl hv hs i (by omega)
  obtain ⟨q1, q2⟩ := h.is i hi
  rw [← nth_eq hi, q1]
  obtain ⟨b1, b2, b3, b4, b5, b6⟩ := best_ch a b (by omega)
  exact ⟨⟨best_chB a b (by omega), arg_small a b (by omega)⟩, b5⟩
/-! ### what is pruned is not worse -/
theorem prune_le (ls : List Lesson) (all : Nat) : ∀ (i : Nat) (out : List Change), i ≤ out.length → wrongL out ls ≤ all → wrongL (pruneF ls all i out) ls ≤ all ∧ (pruneF ls all i out).length ≤ out.length ∧ ∀ c ∈ pruneF ls all i out, c ∈ out
  | 0, out, _, h => ⟨h, Nat.le_refl _, fun c hc => hc⟩
  | i + 1, out, hi, h => by
    rw [pruneF]
    split
    · rename_i hw
      have hd := delAt_len (l := out) (i := i) (by omega)
      obtain ⟨a, b, d⟩ := prune_le ls all i (delAt out i) (by omega) hw
      exact ⟨a, by omega, fun c hc => delAt_mem (d c hc)⟩
    · exact prune_le ls all i out (by omega) h
end Go.Proofs.Ytapgimibdamjoaa.Ev

/- What is learnt: both programs. -/
import Derived.Test.YtapgimibdamjoaaZFnNu
set_option linter.unusedVariables false
set_option linter.unusedSimpArgs false
namespace Go.Proofs.Ytapgimibdamjoaa.Ev
open Go Go.Proofs Go.RowKit

/-! ### fields of a row of structs -/
section
variable {α : Type} {k : Nat} [Enc α k]
theorem cell_at {l : List α} {i j : Nat} (h : i < l.length) (hj : j < k) : (cellsL l)[i * k + j]? = (Enc.cells (nth l i))[j]? := by
  rw [← List.getElem?_drop, cellsL_drop, drop_cells h, List.getElem?_append_left (by rw [Enc.len]; exact hj)]
theorem put_fld {l : List α} {i j : Nat} {c : AV} {y : α} (h : i < l.length) (hj : j < k) (hy : Enc.cells y = (Enc.cells (nth l i)).set j c) : (cellsL l).take (i * k + j) ++ [c] ++ (cellsL l).drop (i * k + j + 1) = cellsL (putAt l i y) := by
  have hx : (Enc.cells (nth l i)).length = k := Enc.len _
  have hi : ((cellsL l).take (i * k)).length = i * k := by
    rw [List.length_take, cellsL_len]
    exact Nat.min_eq_left (Nat.mul_le_mul_right k (by omega))
  have hs : cellsL l = (cellsL l).take (i * k) ++ (Enc.cells (nth l i) ++ (cellsL l).drop (i * k + k)) := by
    have e : i * k + k = (i + 1) * k := by rw [Nat.add_mul, Nat.one_mul]
    rw [e, cellsL_take, cellsL_drop, ← drop_cells h, cellsL_app, List.take_append_drop]
  rw [← cells_putAt l i y, hy, List.set_eq_take_append_cons_drop, if_pos (by omega)]
  generalize hA : (cellsL l).take (i * k) = A at *
  generalize hB : (cellsL l).drop (i * k + k) = B at *
  generalize Enc.cells (nth l i) = X at *
  rw [hs, List.take_append, List.drop_append, List.take_of_length_le (show A.length ≤ i * k + j by omega), (List.drop_eq_nil_of_le (by omega) : A.drop (i * k + j + 1) = []), hi]
  rw [show i * k + j - i * k = j by omega, show i * k + j + 1 - i * k = j + 1 by omega, List.take_append_of_le_length (by omega), List.drop_append_of_le_length (by omega)]
  simp
end
theorem gl_0 {l : List Lesson} {i : Nat} (h : i < l.length) : (cellsL l)[i * 3]? = some (sl (nth l i).1) := cell_at (j := 0) h (by omega)
theorem gl_1 {l : List Lesson} {i : Nat} (h : i < l.length) : (cellsL l)[i * 3 + 1]? = some (sl (nth l i).2.1) := cell_at (j := 1) h (by omega)
theorem gl_x {l : List Lesson} {i : Nat} (h : i < l.length) : ((cellsL l).drop (i * 3)).take 3 = [sl (nth l i).1, sl (nth l i).2.1, sl (nth l i).2.2] := by rw [cellsL_drop, take_cells h]; rfl
theorem pl_1 {l : List Lesson} {i : Nat} (h : i < l.length) (t : List Str) : (cellsL l).take (i * 3 + 1) ++ [AV.ro t.length (cellsL t)] ++ (cellsL l).drop (i * 3 + 1 + 1) = cellsL (putAt l i ((nth l i).1, t, (nth l i).2.2)) := put_fld h (by omega) rfl

/-! ### lessons behind a change -/
def chgX (c : Change) (x : Lesson) : Lesson := (x.1, doneL c x.1 x.2.1, x.2.2)
def chgL (c : Change) (ls : List Lesson) : List Lesson := ls.map (chgX c)
/-- The first i of them. -/
def chgI (c : Change) (ls : List Lesson) (i : Nat) : List Lesson := chgL c (ls.take i) ++ ls.drop i
theorem chgI_len (c : Change) (ls : List Lesson) (i : Nat) : (chgI c ls i).length = ls.length := by
  rw [chgI, chgL, List.length_append, List.length_map, List.length_take, List.length_drop]; omega
theorem chgI_0 (c : Change) (ls : List Lesson) : chgI c ls 0 = ls := by simp [chgI, chgL]
theorem chgI_all (c : Change) (ls : List Lesson) : chgI c ls ls.length = chgL c ls := by simp [chgI, chgL]
theorem chgI_nth {c : Change} {ls : List Lesson} {i : Nat} (h : i < ls.length) : nth (chgI c ls i) i = nth ls i := by
  have e : (chgL c (ls.take i)).length = i := by rw [chgL, List.length_map, List.length_take]; omega
  rw [nth_eq (by rw [chgI_len]; exact h), nth_eq h]
  simp only [chgI]
  rw [List.getElem_append_right (by omega)]
  simp [e]
theorem chgI_put {c : Change} {ls : List Lesson} {i : Nat} (h : i < ls.length) : putAt (chgI c ls i) i (chgX c (nth ls i)) = chgI c ls (i + 1) := by
  have e : (chgL c (ls.take i)).length = i := by rw [chgL, List.length_map, List.length_take]; omega
  rw [putAt, chgI, List.take_append_of_le_length (by omega), List.take_of_length_le (by omega), List.drop_append, List.drop_eq_nil_of_le (by omega), List.nil_append, e, show i + 1 - i = 1 by omega, List.drop_drop, chgI, List.take_add_one, nth_get? h]
  simp [chgL]
theorem hits_is {c : Change} {ls : List Lesson} : ∀ {i : Nat}, i ≤ ls.length → cntF (hitB c) ls i ≠ 0 → ∃ x ∈ ls, ∃ k, k < x.2.1.length ∧ c.2.1 = nth x.2.2 k ∧ c.1 = nth x.2.1 k
  | 0, _, h => by simp [cntF] at h
  | i + 1, hi, h => by
    rw [cntF] at h
    by_cases h1 : cntF (hitB c) ls i = 0
    · have key : ∀ k, cntN (hitB c (nth ls i)) k ≠ 0 → ∃ q, q < k ∧ hitB c (nth ls i) q = true := by
        intro k
        induction k with
        | zero => intro h; simp [cntN] at h
        | succ k ih =>
          intro hk
          rw [cntN] at hk
          by_cases h2 : cntN (hitB c (nth ls i)) k = 0
          · by_cases h3 : hitB c (nth ls i) k = true
            · exact ⟨k, by omega, h3⟩
            · rw [if_neg h3] at hk; omega
          · obtain ⟨q, hq, h⟩ := ih h2
            exact ⟨q, by omega, h⟩
      obtain ⟨q, hq, hh⟩ := key (nth ls i).2.1.length (by omega)
      simp only [hitB, Bool.and_eq_true, decide_eq_true_eq] at hh
      exact ⟨_, nth_mem (by omega), q, hq, hh.2.1, (app_tag hh.2.2).symm⟩
    · exact hits_is (by omega) h1
theorem best_is {ls : List Lesson} (h : OkLs ls) : IsBest ls (bestL ls) := by
  obtain ⟨r, hr⟩ := best_some (fun c => gainL c ls) ((gLs ls ls.length).filter fun c => decide (Cand c))
  have hb : IsBest ls r := best_mono hr (fun x hx => by simpa using (List.mem_filter.1 hx).2) fun x hx => by
    by_cases hm : x ∈ gLs ls ls.length
    · left; exact List.mem_filter.2 ⟨hm, by simpa using hx⟩
    · right
      have e : hits x ls = 0 := (count_gL hx ls _).symm.trans (cntK_zero.2 hm)
      have := gain_le_hits (c := x) h
      omega
  rw [← best_eq hb]; exact hb
theorem valL_iff {l : List Lesson} : valL l = 0 ↔ l.length ≤ 200 ∧ ∀ x ∈ l, longL x = false ∧ fitL x = true ∧ nmL x = true := by
  refine ⟨valL_ok, fun ⟨h1, h2⟩ => ?_⟩
  rw [valL, if_neg (by omega), if_neg (by
    intro q
    obtain ⟨x, hx, q⟩ := List.any_eq_true.1 q
    rw [(h2 x hx).1] at q; cases q), if_pos (List.all_eq_true.2 fun x hx => (h2 x hx).2.1), if_pos (List.all_eq_true.2 fun x hx => (h2 x hx).2.2)]
/-- A change that is good for something changes lessons into lessons. -/
theorem val_chg {c : Change} {ls : List Lesson} (h : valL ls = 0) (hs : SmLs ls) (hc : nameB c.2.1 = true) (hz : c.2.1.size ≤ 4611686018427387904) : valL (chgL c ls) = 0 ∧ SmLs (chgL c ls) := by
  obtain ⟨h1, h2⟩ := valL_ok h
  have hall : ∀ (x : Lesson) (p : Str → Prop), (∀ s ∈ x.2.1, p s) → p c.2.1 → ∀ s ∈ doneL c x.1 x.2.1, p s := fun x p hp hq s hs => by
    obtain ⟨j, hj, e⟩ := List.getElem_of_mem hs
    have hj2 : j < x.2.1.length := by rw [doneL_len] at hj; exact hj
    rw [← nth_eq hj, nth_done c x.1 x.2.1 hj2] at e
    rw [← e]
    split
    · exact hq
    · exact hp _ (nth_mem hj2)
  constructor
  · rw [valL_iff]
    refine ⟨by rw [chgL, List.length_map]; exact h1, fun y hy => ?_⟩
    obtain ⟨x, hx, rfl⟩ := List.mem_map.1 hy
    obtain ⟨a, b, d⟩ := h2 x hx
    refine ⟨a, ?_, ?_⟩
    · simp only [fitL, chgX, doneL_len] at b ⊢; exact b
    · simp only [nmL, Bool.and_eq_true, List.all_eq_true] at d ⊢
      exact ⟨hall x (fun s => nameB s = true) d.1 hc, d.2⟩
  · intro y hy
    obtain ⟨x, hx, rfl⟩ := List.mem_map.1 hy
    obtain ⟨a, b, d⟩ := hs x hx
    exact ⟨a, hall x (fun s => s.size ≤ 4611686018427387904) b hz, d⟩
theorem best_ch {ls : List Lesson} (h : valL ls = 0) (hs : SmLs ls) (hb : 0 < (bestL ls).2) : Cand (bestL ls).1 ∧ nameB (bestL ls).1.1 = true ∧ nameB (bestL ls).1.2.1 = true ∧ (bestL ls).1.1 ≠ (bestL ls).1.2.1 ∧ SmC (bestL ls).1 ∧ gainL (bestL ls).1 ls = (bestL ls).2 := by
  rcases best_is (okLs h) with ⟨e, _⟩ | ⟨b1, b2, b3, _⟩
  · rw [e] at hb; exact absurd hb (by decide)
  · have b3 : gainL (bestL ls).1 ls = (bestL ls).2 := b3
    have h1 := gain_le_hits (c := (bestL ls).1) (okLs h)
    have h2 : hits (bestL ls).1 ls ≠ 0 := by intro e; rw [e] at h1; omega
    obtain ⟨x, hx, k, hk, e1, e2⟩ := hits_is (Nat.le_refl _) h2
    obtain ⟨g1, g2, g3⟩ := (okLs h).2 x hx
    obtain ⟨_, _, h3⟩ := (valL_ok h).2 x hx
    rw [nmL, Bool.and_eq_true] at h3
    obtain ⟨s1, s2, s3⟩ := hs x hx
    refine ⟨b2, ?_, ?_, hits_ne h2, ⟨?_, ?_, ?_⟩, b3⟩
    · rw [e2]; exact List.all_eq_true.1 h3.1 _ (nth_mem hk)
    · rw [e1]; exact List.all_eq_true.1 h3.2 _ (nth_mem (by omega))
    · rw [e2]; exact s2 _ (nth_mem hk)
    · rw [e1]; exact s3 _ (nth_mem (by omega))
    · -- the text that is asked: a name, or a word, or none
      have hm : (bestL ls).1 ∈ gLs ls ls.length := by
        by_cases q : (bestL ls).1 ∈ gLs ls ls.length
        · exact q
        · exact absurd ((count_gL b2 ls _).symm.trans (cntK_zero.2 q)) h2
      exact (sm_arg (smW_of hs h) (Nat.le_refl _) hm).2.1
/-- What is learnt, n changes at most. -/
noncomputable def learnS (least : Int) : Nat → List Lesson → List Change
  | 0, _ => []
  | n + 1, ls => if (bestL ls).2 < least then [] else (bestL ls).1 :: learnS least n (chgL (bestL ls).1 ls)
noncomputable def learnT (ls : List Lesson) (least most : Int) : List Change × Int := if valL ls ≠ 0 then ([], valL ls) else if least < 1 ∨ most < 1 ∨ 24 < most then ([], 1) else (learnS least most.toNat ls, 0)
abbrev clI (t : List Change × Int) : AV := .tup [sl t.1, intA t.2]
theorem learnS_stop {least : Int} {n : Nat} {ls : List Lesson} (h : (bestL ls).2 < least) : learnS least n ls = [] := by
  cases n with
  | zero => rfl
  | succ n => rw [learnS, if_pos h]
end Go.Proofs.Ytapgimibdamjoaa.Ev

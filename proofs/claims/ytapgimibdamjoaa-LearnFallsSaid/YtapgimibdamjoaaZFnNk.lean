/- What a change gains is how much less is wrong; Gain and Wrong, both programs. -/
import Derived.Test.YtapgimibdamjoaaZFnNj
set_option linter.unusedVariables false
set_option linter.unusedSimpArgs false
namespace Go.Proofs.Ytapgimibdamjoaa.Ev
open Go Go.Proofs

theorem nth_putC {α : Type} {k : Nat} [Enc α k] {l : List α} {i j : Nat} (h : i < l.length) (x : α) : nth (putAt l i x) j = if j = i then x else nth l j := by
  rw [putAt_set h]
  unfold nth
  rw [List.getD_eq_getElem?_getD, List.getElem?_set, List.getD_eq_getElem?_getD]
  by_cases e : i = j
  · subst e; simp [h]
  · rw [if_neg e, if_neg (Ne.symm e)]
theorem nth_doneF (c : Change) (w t : List Str) : ∀ (m : Nat), m ≤ t.length → ∀ k, nth (doneF c w t m) k = if k < m ∧ appB c w t k = true then c.2.1 else nth t k
  | 0, _, k => by rw [if_neg (by omega)]; rfl
  | m + 1, hm, k => by
    have ih := nth_doneF c w t m (by omega)
    have hl := doneF_len (c := c) (w := w) (t := t) (k := m) (by omega)
    rw [doneF]
    split
    · rename_i ha
      rw [nth_putC (by omega), ih]
      by_cases e : k = m
      · subst e; rw [if_pos rfl, if_pos ⟨by omega, ha⟩]
      · rw [if_neg e]
        by_cases h2 : k < m ∧ appB c w t k = true
        · rw [if_pos h2, if_pos ⟨by omega, h2.2⟩]
        · rw [if_neg h2, if_neg (fun q => h2 ⟨by omega, q.2⟩)]
    · rename_i ha
      rw [ih]
      by_cases h2 : k < m ∧ appB c w t k = true
      · rw [if_pos h2, if_pos ⟨by omega, h2.2⟩]
      · rw [if_neg h2, if_neg]
        rintro ⟨q1, q2⟩
        by_cases e : k = m
        · subst e; exact ha q2
        · exact h2 ⟨by omega, q2⟩
theorem nth_done (c : Change) (w t : List Str) {k : Nat} (h : k < t.length) : nth (doneL c w t) k = if appB c w t k = true then c.2.1 else nth t k := by
  rw [doneL, nth_doneF c w t _ (Nat.le_refl _)]; simp [h]
theorem app_tag {c : Change} {w t : List Str} {i : Nat} (h : appB c w t i = true) : nth t i = c.1 := by
  rw [appB, Bool.and_eq_true, decide_eq_true_eq] at h; exact h.1
theorem gn_mis (c : Change) (x : Lesson) : ∀ k, k ≤ x.2.1.length → gnN c x k = (misN x.2.1 x.2.2 k : Int) - misN (doneL c x.1 x.2.1) x.2.2 k
  | 0, _ => rfl
  | k + 1, h => by
    have ih := gn_mis c x k (by omega)
    have hd := nth_done c x.1 x.2.1 (k := k) (by omega)
    rw [gnN, misN, misN, hd]
    split
    · rename_i ha
      have ht := app_tag ha
      rw [ht]
      by_cases e1 : nth x.2.2 k = c.2.1
      · by_cases e2 : nth x.2.2 k = c.1
        · simp [e1, e2, ← e2]; omega
        · have : c.1 ≠ nth x.2.2 k := Ne.symm e2
          simp [e1] at *; simp [*]; omega
      · by_cases e2 : nth x.2.2 k = c.1
        · have : c.2.1 ≠ nth x.2.2 k := Ne.symm e1
          simp [e2] at *; simp [*]; omega
        · have h1 : c.2.1 ≠ nth x.2.2 k := Ne.symm e1
          have h2 : c.1 ≠ nth x.2.2 k := Ne.symm e2
          simp [*]; omega
    · split <;> omega
theorem gain_wrong {c : Change} {ls : List Lesson} (h : OkLs ls) : gainL c ls = (wrongL [] ls : Int) - wrongL [c] ls := by
  have : ∀ i, i ≤ ls.length → gnF c ls i = (wrF [] ls i : Int) - wrF [c] ls i := by
    intro i
    induction i with
    | zero => intro _; rfl
    | succ i ih =>
      intro hi
      have h3 := h.2 _ (nth_mem (l := ls) (i := i) (by omega))
      have h4 := gn_mis c (nth ls i) (nth ls i).2.1.length (Nat.le_refl _)
      rw [gnF, wrF, wrF, ih (by omega), h3.2.2, ← h3.2.1, h4, misL, misL]
      simp only [runL, List.foldl_nil, List.foldl_cons]
      omega
  exact this _ (Nat.le_refl _)
end Go.Proofs.Ytapgimibdamjoaa.Ev

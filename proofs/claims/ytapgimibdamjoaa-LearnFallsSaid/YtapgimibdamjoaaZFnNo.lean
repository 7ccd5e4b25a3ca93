/- What the reference counts, plainly. -/
import Derived.Test.YtapgimibdamjoaaZFnNn
set_option linter.unusedVariables false
set_option linter.unusedSimpArgs false
namespace Go.Proofs.Ytapgimibdamjoaa.Ev
open Go Go.Proofs Go.RowKit

theorem count_flat {α : Type} [DecidableEq α] {f : Nat → List α} {c : α} (K : Nat) (h : ∀ j, j ≠ K → cntK (f j) c = 0) : ∀ n, cntK ((List.range n).flatMap f) c = if K < n then cntK (f K) c else 0
  | 0 => by simp [cntK_nil]
  | n + 1 => by
    rw [range_flat, cntK_app, count_flat K h n]
    by_cases e : n = K
    · subst e; rw [if_neg (by omega), if_pos (by omega)]; omega
    · rw [h n e]
      by_cases h2 : K < n
      · rw [if_pos h2, if_pos (by omega)]; rfl
      · rw [if_neg h2, if_neg (by omega)]
theorem args_nodup (k : Int) (w t : List Str) (i : Int) : (argsL k w t i).Nodup := by
  rw [argsL]
  split
  · simp
  · have h2 := far_len k
    have key : ∀ (l : List Str) (xs : List Int), xs.length ≤ 2 → (argF l xs []).Nodup := by
      intro l xs h
      match xs, h with
      | [], _ => simp [argF]
      | [x], _ =>
        simp only [argF, argT, true_or, and_true]
        split <;> simp
      | [x, y], _ =>
        simp only [argF, argT, true_or, and_true]
        by_cases hx : 0 ≤ x ∧ x < l.length
        · rw [if_pos hx]
          split
          · rename_i h
            have := h.2.2
            simp [nth] at this
            simp [nth]
            exact this
          · simp
        · rw [if_neg hx]
          split <;> simp
    exact key _ _ (by simpa using h2)
theorem count_one {l : List Str} (h : l.Nodup) (a : Str) : cntK l a = if l.any (fun s => decide (s = a)) = true then 1 else 0 := by
  by_cases hm : a ∈ l
  · rw [if_pos (List.any_eq_true.2 ⟨a, hm, by simp⟩)]
    exact cntK_one h hm
  · rw [if_neg (fun q => hm (by obtain ⟨x, h1, h2⟩ := List.any_eq_true.1 q; simp at h2; rw [← h2]; exact h1))]
    exact cntK_zero.2 hm
theorem count_map {α β : Type} [DecidableEq α] [DecidableEq β] (f : α → β) (hf : ∀ x y, f x = f y → x = y) (l : List α) (a : α) : cntK (l.map f) (f a) = cntK l a := by
  induction l with
  | nil => rfl
  | cons x l ih =>
    rw [List.map_cons, cntK_cons, cntK_cons, ih]
    by_cases e : a = x
    · subst e; simp
    · have : f a ≠ f x := fun q => e (hf _ _ q)
      simp [e, this]
theorem count_map0 {α β : Type} [DecidableEq β] (f : α → β) (l : List α) (b : β) (h : ∀ x, f x ≠ b) : cntK (l.map f) b = 0 := by
  rw [cntK_zero]
  intro hm
  obtain ⟨x, _, e⟩ := List.mem_map.1 hm
  exact h x e
theorem count_gP {c : Change} (hc : Cand c) (x : Lesson) (k : Nat) : cntK (gP x k 10) c = if hitB c x k = true then 1 else 0 := by
  obtain ⟨c1, c2, c3, c4⟩ := c
  have hk : 0 ≤ c3 ∧ c3 ≤ 9 := hc.1
  have happ := app_args hc.kd x.1 x.2.1 k
  rw [gP, hitB]
  by_cases ht : nth x.2.1 k = nth x.2.2 k
  · rw [if_pos ht]; simp [ht, cntK_nil]
  · rw [if_neg ht, count_flat c3.toNat]
    · rw [if_pos (by omega)]
      by_cases e : nth x.2.1 k = c1 ∧ nth x.2.2 k = c2
      · obtain ⟨rfl, rfl⟩ := e
        have e3 : ((c3.toNat : Nat) : Int) = c3 := by omega
        rw [gAt, e3, count_map (fun a => ((nth x.2.1 k, nth x.2.2 k, c3, a) : Change)) (fun a b h => by simpa using h), count_one (args_nodup _ _ _ _), happ]
        dsimp only
        generalize List.any (argsL c3 x.1 x.2.1 k) (fun s => decide (s = c4)) = b
        cases b <;> simp [ht]
      · rw [gAt, count_map0 _ _ _ fun a q => e (by simp at q; exact ⟨q.1, q.2.1⟩), happ, if_neg]
        simp only [Bool.and_eq_true, decide_eq_true_eq]
        rintro ⟨_, q1, q2, _⟩
        exact e ⟨q2, q1.symm⟩
    · intro j hj
      exact count_map0 _ _ _ fun a q => by
        simp at q
        have := q.2.2.1
        omega
theorem count_gX {c : Change} (hc : Cand c) (x : Lesson) : ∀ k, cntK (gX x k) c = cntN (hitB c x) k
  | 0 => rfl
  | k + 1 => by rw [gX, range_flat, cntK_app, ← gX, count_gX hc x k, cntN, count_gP hc]
theorem count_gL {c : Change} (hc : Cand c) (ls : List Lesson) : ∀ i, cntK (gLs ls i) c = cntF (hitB c) ls i
  | 0 => rfl
  | i + 1 => by rw [gLs, range_flat, cntK_app, ← gLs, count_gL hc ls i, cntF, count_gX hc]
/-! ### which changes are counted -/
theorem mem_args {k : Int} {w t : List Str} {i : Int} {y : Str} (h : y ∈ argsL k w t i) : (k = 9 ∧ y = ⟨#[]⟩) ∨ (k ≠ 9 ∧ if 5 < k then y ∈ w else y ∈ t) := by
  rw [argsL] at h
  split at h
  · left; exact ⟨by assumption, by simpa using h⟩
  · right
    refine ⟨by assumption, ?_⟩
    rw [argF_mem] at h
    simp only [List.not_mem_nil, false_or] at h
    obtain ⟨x, _, hb, e⟩ := h
    by_cases h5 : 5 < k
    · rw [if_pos h5] at e hb ⊢; rw [← e]; exact nth_mem (by omega)
    · rw [if_neg h5] at e hb ⊢; rw [← e]; exact nth_mem (by omega)
theorem mem_gL {ls : List Lesson} {i : Nat} {c : Change} (h : c ∈ gLs ls i) (hi : i ≤ ls.length) : ∃ x ∈ ls, ∃ k, k < x.2.1.length ∧ nth x.2.1 k ≠ nth x.2.2 k ∧ (0 ≤ c.2.2.1 ∧ c.2.2.1 ≤ 9) ∧ c.2.2.2 ∈ argsL c.2.2.1 x.1 x.2.1 k := by
  rw [gLs, List.mem_flatMap] at h
  obtain ⟨j, hj, h⟩ := h
  rw [gX, List.mem_flatMap] at h
  obtain ⟨k, hk, h⟩ := h
  rw [List.mem_range] at hj hk
  rw [gP] at h
  split at h
  · simp at h
  · rename_i hne
    rw [List.mem_flatMap] at h
    obtain ⟨q, hq, h⟩ := h
    rw [gAt, List.mem_map] at h
    obtain ⟨a, ha, rfl⟩ := h
    rw [List.mem_range] at hq
    exact ⟨_, nth_mem (by omega), k, hk, hne, ⟨by simp, by simp; omega⟩, ha⟩
end Go.Proofs.Ytapgimibdamjoaa.Ev
